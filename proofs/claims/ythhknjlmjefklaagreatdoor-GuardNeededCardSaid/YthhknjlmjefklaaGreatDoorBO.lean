/- The expansions of the macros that the built-in text uses. -/
import Derived.Test.YthhknjlmjefklaaGreatDoorBN
import Derived.Test.YthhknjlmjefklaaGreatDoorBM
namespace Go.Proofs.YthhknjlmjefklaaGreatDoor
open Go.Proofs.Tryz
open Go.RowKit
abbrev jh:FuncId:=190
abbrev AU:FuncId:=223
abbrev xH:FuncId:=189
abbrev Q5(n:aa0):Ob:=⟨2,[],[],x8,n,[],[]⟩
theorem b5x{es rs:aa1}{a b o:Ob}(n0:es.length≠0)(n1:es.length≠1)(h0:E5 es 0 7 (D9 a))(hs:fU es 7 1 (es.length:Int) rs)(hr:l7 AU [stA [97,112,112,101,110,100],.dt (.row rs)] (x9 b))(hc:l7 xH [stA [98,105,110,97,114,121,45,97,112,112,101,110,100],.dt (.row [D9 a,D9 b])] (x9 o)):l7 jh [stA [97,112,112,101,110,100],.dt (.row es)] (.o7 [x9 o,o6 true]) :=
 pV [.av (inA es.length),.no,.no,.no,yF,yF,.no,.av (.pin ((D9 a).map .dt)),.av (.dt (.row rs)),.av (x9 b),.av (x9 o)] [(vi ↑es.length)=(vi ↑es.length),Bk .eql 3 29 0 ↑es.length bF,Bk .eql 3 34 1 ↑es.length bF,_,_,(none:Option Int)=none∨(none:Option Int)=none,_,_] func190 ⟨rfl,F6 (WF J),F6 (WF J),h0,hs,.inl rfl,hr,hc,Z⟩
theorem b5y{es rs:aa1}{a b o:Ob}(n0:es.length≠0)(n1:es.length≠1)(h0:E5 es 0 7 (D9 a))(hs:fU es 7 1 (es.length:Int) rs)(hr:l7 AU [stA [97,110,100],.dt (.row rs)] (x9 b))(hc:l7 xH [stA [105,102],.dt (.row [D9 a,D9 b,D9 U6])] (x9 o)):l7 jh [stA [97,110,100],.dt (.row es)] (.o7 [x9 o,o6 true]) :=
 pV (.av (inA es.length)::nK 4 [yF,yF,.no,.av (.pin ((D9 a).map .dt)),.av (.dt (.row rs)),.av (x9 b),.av (x9 U6),.av (x9 o)]) [(vi ↑es.length)=(vi ↑es.length),Bk .eql 3 62 0 ↑es.length bF,Bk .eql 3 67 1 ↑es.length bF,_,_,(none:Option Int)=none∨(none:Option Int)=none,_,_,_] func190 ⟨rfl,F6 (WF J),F6 (WF J),h0,hs,.inl rfl,hr,ry,hc,Z⟩
theorem b8i{es rs:aa1}{a b o:Ob}(n0:es.length≠0)(n1:es.length≠1)(h0:E5 es 0 7 (D9 a))(hs:fU es 7 1 (es.length:Int) rs)(hr:l7 AU [stA [111,114],.dt (.row rs)] (x9 b))(hc:l7 xH [stA [105,102],.dt (.row [D9 a,D9 a,D9 b])] (x9 o)):l7 jh [stA [111,114],.dt (.row es)] (.o7 [x9 o,o6 true]) :=
 pV (.av (inA es.length)::nK 5 [yF,yF,.no,.av (.pin ((D9 a).map .dt)),.av (.pin ((D9 a).map .dt)),.av (.dt (.row rs)),.av (x9 b),.av (x9 o)]) [(vi ↑es.length)=(vi ↑es.length),Bk .eql 3 62 0 ↑es.length bF,Bk .eql 3 67 1 ↑es.length bF,_,_,_,(none:Option Int)=none∨(none:Option Int)=none,_,_] func190 ⟨rfl,F6 (WF J),F6 (WF J),h0,h0,hs,.inl rfl,hr,hc,Z⟩
theorem b5z{es rs:aa1}{a b o:Ob}(n0:es.length≠0)(h0:E5 es 0 7 (D9 a))(hs:fU es 7 1 (es.length:Int) rs)(hr:l7 AU [stA [108,105,115,116],.dt (.row rs)] (x9 b))(hc:l7 xH [stA [99,111,110,115],.dt (.row [D9 a,D9 b])] (x9 o)):l7 jh [stA [108,105,115,116],.dt (.row es)] (.o7 [x9 o,o6 true]) :=
 pV [.av (inA es.length),.no,yF,.av (.pin ((D9 a).map .dt)),.av (.dt (.row rs)),.av (x9 b),.av (x9 o)] [(vi ↑es.length)=(vi ↑es.length),Bk .eql 3 14 0 ↑es.length bF,_,_,(none:Option Int)=none∨(none:Option Int)=none,_,_] func190 ⟨rfl,F6 (WF J),h0,hs,.inl rfl,hr,hc,Z⟩
theorem b3x:l7 jh [stA [108,105,115,116],.dt (.row [])] (.o7 [x9 U6,o6 true]) :=
 pV [.no,.no,.no,.av (x9 U6)] [_] func190 ⟨ry,Z⟩
theorem a8G:l7 147 [o6 true] (x9 tO):=pV [.av (x9 tO)] [_] func147 ⟨EO,Z⟩
theorem a8H:l7 147 [o6 false] (x9 U6):=pV [.av (x9 U6)] [_] func147 ⟨ry,Z⟩
theorem b3y:l7 jh [stA [97,112,112,101,110,100],.dt (.row [])] (.o7 [x9 U6,o6 true]) :=
 pV (nK 5 [.av (x9 U6),.no]) [_] func190 ⟨ry,Z⟩
theorem b3z:l7 jh [stA [97,110,100],.dt (.row [])] (.o7 [x9 tO,o6 true]) :=
 pV (nK 7 [.av (x9 tO)]) [_] func190 ⟨a8G,Z⟩
theorem b5A:l7 jh [stA [111,114],.dt (.row [])] (.o7 [x9 U6,o6 true]) :=
 pV (nK 8 [.av (x9 U6)]) [_] func190 ⟨a8H,Z⟩
theorem b3A(a:Ob):l7 jh [stA [97,112,112,101,110,100],.dt (.row [D9 a])] (.o7 [x9 a,o6 true]) :=
 pV (nK 7 []) [] func190 trivial
theorem b3B(a:Ob):l7 jh [stA [97,110,100],.dt (.row [D9 a])] (.o7 [x9 a,o6 true]) :=
 pV (nK 8 []) [] func190 trivial
theorem b5B(a:Ob):l7 jh [stA [111,114],.dt (.row [D9 a])] (.o7 [x9 a,o6 true]) :=
 pV (nK 9 []) [] func190 trivial
theorem b3C{es rs:aa1}{x a b c o:Ob}(n0:es.length≠0)(h0:E5 es 0 7 (D9 x))(hi:l7 63 [x9 x] (.o7 [.dt (.row [D9 a,D9 b]),o6 true]))(hs:fU es 7 1 (es.length:Int) rs)(hr:l7 AU [stA [99,111,110,100],.dt (.row rs)] (x9 c))(hc:l7 xH [stA [105,102],.dt (.row [D9 a,D9 b,D9 c])] (x9 o)):l7 jh [stA [99,111,110,100],.dt (.row es)] (.o7 [x9 o,o6 true]) :=
 pV (.av (inA es.length)::nK 6 (yF::.av (.pin ((D9 x).map .dt))::.av (.o7 [.dt (.row [D9 a,D9 b]),o6 true])::nK 4 [.av (.dt (.row rs)),.av (x9 c),.av (x9 o)])) [(vi ↑es.length)=(vi ↑es.length),Bk .eql 3 98 0 ↑es.length bF,_,_,_,(none:Option Int)=none∨(none:Option Int)=none,_,_] func190 ⟨rfl,F6 (WF J),h0,hi,hs,.inl rfl,hr,hc,Z⟩
theorem b0L:l7 jh [stA [99,111,110,100],.dt (.row [])] (.o7 [x9 U6,o6 true]) :=
 pV (nK 8 [.av (x9 U6)]) [_] func190 ⟨ry,Z⟩
theorem b3D{a b o:Ob}(hc:l7 xH [stA [98,105,110,97,114,121,45,43],.dt (.row [D9 a,D9 b])] (x9 o)):l7 224 [stA [43],stA [98,105,110,97,114,121,45,43],inA 0,.dt (.row [D9 a,D9 b])] (x9 o) :=
 pV (nK 6 [.av (x9 o)]) [_] func224 ⟨hc,Z⟩
theorem b3E{es rs:aa1}{a b o:Ob}(n0:3≤es.length)(h0:E5 es 0 7 (D9 a))(hs:fU es 7 1 (es.length:Int) rs)(hr:l7 AU [stA [43],.dt (.row rs)] (x9 b))(hc:l7 xH [stA [98,105,110,97,114,121,45,43],.dt (.row [D9 a,D9 b])] (x9 o)):l7 224 [stA [43],stA [98,105,110,97,114,121,45,43],inA 0,.dt (.row es)] (x9 o) :=
 pV [.av (inA es.length),yF,yF,yF,.av (.pin ((D9 a).map .dt)),.av (.dt (.row rs)),.av (x9 b),.av (x9 o)] [(vi ↑es.length)=(vi ↑es.length),Bk .eql 3 10 0 ↑es.length bF,Bk .eql 3 10 1 ↑es.length bF,Bk .eql 3 10 2 ↑es.length bF,_,_,(none:Option Int)=none∨(none:Option Int)=none,_,_] func224 ⟨rfl,F6 (WF J),F6 (WF J),F6 (WF J),h0,hs,.inl rfl,hr,hc,Z⟩
theorem a0o{es:aa1}{o:Ob}(h:l7 224 [stA [43],stA [98,105,110,97,114,121,45,43],inA 0,.dt (.row es)] (x9 o)):l7 jh [stA [43],.dt (.row es)] (.o7 [x9 o,o6 true]) :=
 pV (.av (inA es.length)::nK 7 [.av (x9 o)]) [(vi ↑es.length)=(vi ↑es.length),_] func190 ⟨rfl,h,Z⟩
theorem a8I{n:aa0}{l:List Tr}{o:Tr}(h:y8.expand n l=some o)(hl:l.length≤1000):l7 jh [stA n,rowA l] (.o7 [o9 o,o6 true]):=by
 have hln:∀l:List Tr,(G7 l).length=l.length:=fun l=>EQ ..
 unfold y8.expand at h;split at h
 ·rename_i e;subst e;split at h
  ·cases h;exact b3x
  ·rename_i x r;cases h;rw[Za1]at hl;exact b5z (es:=G7 (x::r)) (rs:=G7 r) (by rw[hln,Za1];omega) (rE x r) (rD x r) (zq _ J) (uH _ (l:=[x,y8.call [108,105,115,116] r]) (by show 2≤10000;omega))
 split at h
 ·rename_i e;subst e;split at h
  ·cases h;exact b3y
  ·cases h;exact b3A _
  ·rename_i x r hne;cases h;rw[Za1]at hl;have:r.length≠0:=fun e=>by
    obtain rfl:=Za9 e;exact hne rfl
   exact b5x (es:=G7 (x::r)) (rs:=G7 r) (by rw[hln,Za1];omega) (by rw[hln,Za1];omega) (rE x r) (rD x r) (zq _ J) (uH _ (l:=[x,y8.call [97,112,112,101,110,100] r]) (by show 2≤10000;omega))
 split at h
 ·rename_i e;subst e;split at h
  ·cases h;exact b3z
  ·cases h;exact b3B _
  ·rename_i x r hne;cases h;rw[Za1]at hl;have:r.length≠0:=fun e=>by
    obtain rfl:=Za9 e;exact hne rfl
   exact b5y (es:=G7 (x::r)) (rs:=G7 r) (by rw[hln,Za1];omega) (by rw[hln,Za1];omega) (rE x r) (rD x r) (zq _ J) (uH _ (l:=[x,y8.call [97,110,100] r,y8.AP]) (by show 3≤10000;omega))
 split at h
 ·rename_i e;subst e;split at h
  ·cases h;exact b5A
  ·cases h;exact b5B _
  ·rename_i x r hne;cases h;rw[Za1]at hl;have:r.length≠0:=fun e=>by
    obtain rfl:=Za9 e;exact hne rfl
   exact b8i (es:=G7 (x::r)) (rs:=G7 r) (by rw[hln,Za1];omega) (by rw[hln,Za1];omega) (rE x r) (rD x r) (zq _ J) (uH _ (l:=[x,x,y8.call [111,114] r]) (by show 3≤10000;omega))
 split at h
 ·rename_i e;subst e;split at h
  ·cases h;exact b0L
  ·rename_i x r;split at h
   ·rename_i a c hi;cases h;rw[Za1]at hl;have hx:=wH hi;subst hx;exact b3C (es:=G7 (Tr.list [a,c]::r)) (rs:=G7 r) (by rw[hln,Za1];omega) (rE _ r) (zo (l:=[a,c]) (by show 2≤10000;omega)) (rD _ r) (zq _ J) (uH _ (l:=[a,c,y8.call [99,111,110,100] r]) (by show 3≤10000;omega))
   ·cases h
 split at h
 ·rename_i e;subst e;split at h
  ·rename_i x y;cases h;exact a0o (b3D (uH _ (l:=[x,y]) (by show 2≤10000;omega)))
  ·rename_i x y z r;cases h;simp only[Za1]at hl;exact a0o (b3E (es:=G7 (x::y::z::r)) (rs:=G7 (y::z::r)) (by rw[hln];simp only[Za1];omega) (rE x _) (rD x _) (zq _ (by simp only[Za1];omega)) (uH _ (l:=[x,y8.call [43] (y::z::r)]) (by show 2≤10000;omega)))
  ·cases h
 ·cases h
theorem b5C:l7 135 [y7 x8 [108,105,115,116]] (o6 true):=pV [.no,.no] [] func135 trivial
theorem b5D:l7 135 [y7 x8 [97,110,100]] (o6 true):=pV (nK 4 []) [] func135 trivial
theorem b5E:l7 135 [y7 x8 [111,114]] (o6 true):=pV (nK 5 []) [] func135 trivial
theorem b5F:l7 135 [y7 x8 [99,111,110,100]] (o6 true):=pV (nK 6 []) [] func135 trivial
theorem b5G:l7 135 [y7 x8 [43]] (o6 true):=pV (nK 7 []) [] func135 trivial
theorem b3F:l7 135 [y7 x8 [97,112,112,101,110,100]] (o6 true):=pV (nK 14 []) [] func135 trivial
theorem b5H{n:aa0}(h:n ∉ y8.Qk):l7 135 [y7 x8 n] (o6 false):=by
 have ne:∀m∈y8.Qk,decide (n=m)=false:=fun m hm=>WF fun e=>h (e ▸ hm)
 exact pV [.no,yF,yF,yF,yF,yF,yF,yF,yF,yF,yF,yF,yF,yF] [Bl .eql 9 7 [108,105,115,116] n bF,Bl .eql 9 7 [108,105,115,116,42] n bF,Bl .eql 9 7 [97,110,100] n bF,Bl .eql 9 7 [111,114] n bF,Bl .eql 9 7 [99,111,110,100] n bF,Bl .eql 9 7 [43] n bF,Bl .eql 9 7 [42] n bF,Bl .eql 9 7 [45] n bF,Bl .eql 9 7 [47] n bF,Bl .eql 9 7 [60,61] n bF,Bl .eql 9 7 [62] n bF,Bl .eql 9 7 [62,61] n bF,Bl .eql 9 7 [97,112,112,101,110,100] n bF] func135 ⟨L6 (ne _ O),L6 (ne _ O),L6 (ne _ O),L6 (ne _ O),L6 (ne _ O),L6 (ne _ O),L6 (ne _ O),L6 (ne _ O),L6 (ne _ O),L6 (ne _ O),L6 (ne _ O),L6 (ne _ O),L6 (ne _ O),Z⟩
abbrev L9(n:aa0):List Dt:=[.val (str x8),.val (str n)]
abbrev I8(f:y8.H8):List Dt:=[.val (str x8),.val (str f.nm),.row (f.ps.map L9),.val (.int .i64 1),.val (.int .i64 f.guard.kind),.val (str f.guard.np),.val (str f.guard.nn),.val (.int .i64 f.guard.val.kind),.val (str f.guard.val.num),.val (str f.guard.val.den),.val (str f.guard.val.sp),.val (str f.guard.val.sn),.val (str f.guard.val.text),.row (f.guard.val.pair.map Ob.enc),.row (f.guard.args.map Te.enc),.val (.int .i64 f.body.kind),.val (str f.body.np),.val (str f.body.nn),.val (.int .i64 f.body.val.kind),.val (str f.body.val.num),.val (str f.body.val.den),.val (str f.body.val.sp),.val (str f.body.val.sn),.val (str f.body.val.text),.row (f.body.val.pair.map Ob.enc),.row (f.body.args.map Te.enc),.val (.int .i64 f.measure.kind),.val (str f.measure.np),.val (str f.measure.nn),.val (.int .i64 f.measure.val.kind),.val (str f.measure.val.num),.val (str f.measure.val.den),.val (str f.measure.val.sp),.val (str f.measure.val.sn),.val (str f.measure.val.text),.row (f.measure.val.pair.map Ob.enc),.row (f.measure.args.map Te.enc)]
abbrev I9(f:y8.H8):List Dt:=[.val (.int .i64 3),.val (str x8),.val (str f.nm),.val (str []),.row [],.val (str []),.val (str []),.row [],.val (.bool false),.val (.int .i64 0),.val (str []),.val (str []),.val (.int .i64 0),.val (str []),.val (str []),.val (str []),.val (str []),.val (str []),.row [],.row [],.row [I8 f],.row [],.row [],.row [],.val (str []),.val (str []),.row [],.row [],.row [],.row [],.val (str []),.val (.int .u64 0)]
abbrev bG(is:aa1):List Dt:=[.val (.int .i64 1),.val (str x8),.val (str [117,115,101,114,45,112,97,99,107,97,103,101]),.val (str [117,115,101,114]),.row is,.val (str []),.val (str []),.row [],.val (.bool false),.val (.int .i64 0),.val (str []),.val (str []),.val (.int .i64 0),.val (str []),.val (str []),.val (str []),.val (str []),.val (str []),.row [],.row [],.row [],.row [],.row [],.row [],.val (str []),.val (str []),.row [],.row [],.row [],.row [],.val (str []),.val (.int .u64 0)]
theorem rW{ws:List y8.H8}{r:aa1}{i:Nat}{f:y8.H8}(h:ws[i]?=some f):E5 (ws.map I9++r) (i:Int) 32 (I9 f):=⟨Int.natCast_nonneg _,by
 have hl:=(Pi.1 h).1;rw[Int.toNat_natCast,ZaN (by rw[EQ];exact hl),Zag,h];rfl,rfl⟩
theorem Ko(l:List (aa0)):Value.int .i64 (l.length:Int)=Value.int .i64 ((l.map L9).length:Int):=by rw[EQ]
theorem a0p{n:aa0}(hn:∀x∈I7,n≠x.1):l7 10 [y7 x8 n] (.o7 [inA 0,o6 false]):=pV ([.no,.av (.dt (.row (I7.map bW))),.no,.no,.no,yF]++nK 4 (yF::nK 4 (yF::nK 4 (yF::nK 4 (yF::nK 4 (yF::nK 4 (yF::nK 4 (yF::nK 4 (yF::nK 4 (yF::nK 4 (yF::nK 4 (yF::nK 4 (yF::nK 4 (yF::nK 4 (yF::nK 4 (yF::nK 4 (yF::nK 4 (yF::nK 4 (yF::nK 4 (yF::nK 4 (yF::nK 4 (yF::nK 4 (yF::nK 4 (yF::nK 4 [yF,.no])))))))))))))))))))))))) [_,Bs .eql 9 20 22 (([105,102],3).fst) n bF,Bs .eql 9 20 22 (([101,113,117,97,108],2).fst) n bF,Bs .eql 9 20 22 (([99,111,110,115],2).fst) n bF,Bs .eql 9 20 22 (([99,97,114],1).fst) n bF,Bs .eql 9 20 22 (([99,100,114],1).fst) n bF,Bs .eql 9 20 22 (([99,111,110,115,112],1).fst) n bF,Bs .eql 9 20 22 (([115,121,109,98,111,108,112],1).fst) n bF,Bs .eql 9 20 22 (([115,116,114,105,110,103,112],1).fst) n bF,Bs .eql 9 20 22 (([114,97,116,105,111,110,97,108,112],1).fst) n bF,Bs .eql 9 20 22 (([105,110,116,101,103,101,114,112],1).fst) n bF,Bs .eql 9 20 22 (([98,105,110,97,114,121,45,43],2).fst) n bF,Bs .eql 9 20 22 (([98,105,110,97,114,121,45,42],2).fst) n bF,Bs .eql 9 20 22 (([117,110,97,114,121,45,45],1).fst) n bF,Bs .eql 9 20 22 (([117,110,97,114,121,45,47],1).fst) n bF,Bs .eql 9 20 22 (([60],2).fst) n bF,Bs .eql 9 20 22 (([110,117,109,101,114,97,116,111,114],1).fst) n bF,Bs .eql 9 20 22 (([100,101,110,111,109,105,110,97,116,111,114],1).fst) n bF,Bs .eql 9 20 22 (([102,108,111,111,114],1).fst) n bF,Bs .eql 9 20 22 (([115,121,109,98,111,108,45,110,97,109,101],1).fst) n bF,Bs .eql 9 20 22 (([115,121,109,98,111,108,45,112,97,99,107,97,103,101,45,110,97,109,101],1).fst) n bF,Bs .eql 9 20 22 (([105,110,116,101,114,110],2).fst) n bF,Bs .eql 9 20 22 (([115,116,114,105,110,103,45,97,112,112,101,110,100],2).fst) n bF,Bs .eql 9 20 22 (([115,116,114,105,110,103,45,108,101,110,103,116,104],1).fst) n bF,Bs .eql 9 20 22 (([115,116,114,105,110,103,45,98,121,116,101],2).fst) n bF,Bs .eql 9 20 22 (([98,121,116,101,45,115,116,114,105,110,103],1).fst) n bF] func10 ⟨cZ,L6 (WF (ZaR (hn ([105,102],3) O))),L6 (WF (ZaR (hn ([101,113,117,97,108],2) O))),L6 (WF (ZaR (hn ([99,111,110,115],2) O))),L6 (WF (ZaR (hn ([99,97,114],1) O))),L6 (WF (ZaR (hn ([99,100,114],1) O))),L6 (WF (ZaR (hn ([99,111,110,115,112],1) O))),L6 (WF (ZaR (hn ([115,121,109,98,111,108,112],1) O))),L6 (WF (ZaR (hn ([115,116,114,105,110,103,112],1) O))),L6 (WF (ZaR (hn ([114,97,116,105,111,110,97,108,112],1) O))),L6 (WF (ZaR (hn ([105,110,116,101,103,101,114,112],1) O))),L6 (WF (ZaR (hn ([98,105,110,97,114,121,45,43],2) O))),L6 (WF (ZaR (hn ([98,105,110,97,114,121,45,42],2) O))),L6 (WF (ZaR (hn ([117,110,97,114,121,45,45],1) O))),L6 (WF (ZaR (hn ([117,110,97,114,121,45,47],1) O))),L6 (WF (ZaR (hn ([60],2) O))),L6 (WF (ZaR (hn ([110,117,109,101,114,97,116,111,114],1) O))),L6 (WF (ZaR (hn ([100,101,110,111,109,105,110,97,116,111,114],1) O))),L6 (WF (ZaR (hn ([102,108,111,111,114],1) O))),L6 (WF (ZaR (hn ([115,121,109,98,111,108,45,110,97,109,101],1) O))),L6 (WF (ZaR (hn ([115,121,109,98,111,108,45,112,97,99,107,97,103,101,45,110,97,109,101],1) O))),L6 (WF (ZaR (hn ([105,110,116,101,114,110],2) O))),L6 (WF (ZaR (hn ([115,116,114,105,110,103,45,97,112,112,101,110,100],2) O))),L6 (WF (ZaR (hn ([115,116,114,105,110,103,45,108,101,110,103,116,104],1) O))),L6 (WF (ZaR (hn ([115,116,114,105,110,103,45,98,121,116,101],2) O))),L6 (WF (ZaR (hn ([98,121,116,101,45,115,116,114,105,110,103],1) O))),Z⟩
theorem Qy(f:y8.H8):l7 115 [.agg ((I9 f).map .dt)] (.dt (.row [I8 f])) :=
 pV [.no] [] func115 trivial
theorem b0M(is:aa1):l7 115 [.agg ((bG is).map .dt)] (.dt (.row [])) :=
 pV (nK 4 []) [] func115 trivial
abbrev iM(es:aa1)(n:aa0)(i:Int):AS:=⟨stt 36 [(0,.dt (.row es)),(3,.ptr 0 0),(7,inA i)],[some (.cells [stA x8,stA n])]⟩
abbrev Uz(n:aa0)(i:Int):AS:=⟨stt 36 [(4,inA i),(5,inA 0),(6,o6 true)],[some (.cells [stA x8,stA n])]⟩
noncomputable abbrev sV:Code:=V5 (ai f114) [1,0,1,0,0]
theorem a2K{es:aa1}{n:aa0}{i:Nat}{f:y8.H8}(h:E5 es (i:Int) 32 (I9 f))(hi:i < es.length)(hl:es.length≤1000)(hn:(decide (f.nm=n))=false):D7 EX sV (iM es n i) .I4 (iM es n ((i+1:Nat):Int)) :=
 tW [.av (inA es.length),yT,.av (.pin ((I9 f).map .dt)),.av (.dt (.row [I8 f])),.no,.no,.no,yF,.no,.no,.no,.av (inA ((i+1:Nat):Int))] [.run 2] [0,3,7] 1 [(vi ↑es.length)=(vi ↑es.length),Bt .lss 3 10 12 ↑i ↑es.length bT,E5 es ↑i 32 (I9 f),l7 115 [(.agg ((I9 f).map .dt))] (.dt (.row [I8 f])),Bn .eql 28 (.tmp 31) (.tmp 32) (Value.agg #[str x8,str f.nm]) (Value.agg #[str x8,str n]) bF,Bk .add 3 14 1 ↑i (vi (↑(i+1)))]     ⟨rfl,F8 (UV J),h,Qy f,aO (by rw[hn];rfl),N8 J J J,Z⟩
theorem b8j{es:aa1}{n:aa0}{i:Nat}{f:y8.H8}(h:E5 es (i:Int) 32 (I9 f))(hi:i < es.length)(hn:f.nm=n):D7 EX sV (iM es n i) .ret (Uz n i) :=
 tW [.av (inA es.length),yT,.av (.pin ((I9 f).map .dt)),.av (.dt (.row [I8 f])),.no,.no,.no,yT] [.run 2] [4,5,6] 1 [(vi ↑es.length)=(vi ↑es.length),Bt .lss 3 10 12 ↑i ↑es.length bT,E5 es ↑i 32 (I9 f),l7 115 [(.agg ((I9 f).map .dt))] (.dt (.row [I8 f])),Bn .eql 28 (.tmp 31) (.tmp 32) (Value.agg #[str x8,str f.nm]) (Value.agg #[str x8,str n]) bT]     ⟨rfl,F8 (UV J),h,Qy f,aO (by rw[UV hn];rfl),Z⟩
theorem b0N{ws:List y8.H8}{r:aa1}{n:aa0}{f:y8.H8}(hl:(ws.map I9++r).length≤1000):∀(s:List y8.H8) (i:Nat),ws.drop i=s→(s.find? fun f=>f.nm == n)=some f→∃j:Nat,ws[j]?=some f∧Lps EX sV (iM (ws.map I9++r) n i) .ret (Uz n j):=by
 intro s
 induction s with
 |nil=>intro i _ h;cases h
 |cons x s ih =>
  intro i hd h;have hx:ws[i]?=some x:=by rw[←Zak,hd];rfl
  have hlt:=(Pi.1 hx).1;have hi:i < (ws.map I9++r).length:=by rw[Za4,EQ];omega
  rw[List.find?_cons]at h;split at h
  ·rename_i e;cases h;exact⟨i,hx,.stop (b8j (rW hx) hi (by simpa using e)) (fun h=>by cases h)⟩
  ·rename_i e;obtain⟨j,k1,k2⟩:=ih (i+1) (by rw[←Zaj,hd];rfl) h;exact⟨j,k1,.more (a2K (rW hx) hi hl (WF (by simpa using e))) k2⟩
theorem b3G{es:aa1}{n:aa0}{j:Nat}{f:y8.H8}(ht:l7 114 [.dt (.row es),y7 x8 n] (.o7 [inA j,inA 0,o6 true]))(h:E5 es (j:Int) 32 (I9 f)):l7 85 [.dt (.row es),y7 x8 n] (.o7 [.agg ((I8 f).map .dt),o6 true]) :=
 pV [.av (.o7 [inA j,inA 0,o6 true]),.av (.pin ((I9 f).map .dt)),.av (.dt (.row [I8 f])),.no] [_,_,l7 115 [(.agg ((I9 f).map .dt))] (.dt (.row [I8 f]))] func85 ⟨ht,h,Qy f,Z⟩
theorem a0q{ws:List y8.H8}{r:aa1}{n:aa0}{f:y8.H8}(hl:(ws.map I9++r).length≤1000)(hf:(ws.find? fun f=>f.nm == n)=some f):l7 85 [.dt (.row (ws.map I9++r)),y7 x8 n] (.o7 [.agg ((I8 f).map .dt),o6 true]):=by
 obtain⟨j,hj,h⟩:=b0N (r:=r) hl ws 0 rfl hf;have ht:=h.tri;refine b3G (j:=j) ?_ (rW hj);generalize ws.map I9++r=es at *;exact pW [] [.inv [0,3,7] 1 (.ret) (Uz n j)] [_] func114 ⟨ht,Z⟩
theorem b5I{es:aa1}{n:aa0}{f:y8.H8}(h1:l7 10 [y7 x8 n] (.o7 [inA 0,o6 false]))(h2:l7 85 [.dt (.row es),y7 x8 n] (.o7 [.agg ((I8 f).map .dt),o6 true])):l7 84 [.dt (.row es),y7 x8 n] (.o7 [inA f.ps.length,o6 true]) :=
 pV [.av (.o7 [inA 0,o6 false]),.av (.o7 [.agg ((I8 f).map .dt),o6 true]),.av (inA f.ps.length)] [_,_,(vi ↑f.ps.length)=(vi (↑(List.map L9 f.ps).length))] func84 ⟨h1,h2,Ko _,Z⟩
theorem b3H{es:aa1}{n:aa0}{k:Nat}(h1:l7 10 [y7 x8 n] (.o7 [inA k,o6 true])):l7 84 [.dt (.row es),y7 x8 n] (.o7 [inA k,o6 true]) :=
 pV [.av (.o7 [inA k,o6 true])] [_] func84 ⟨h1,Z⟩
def bH(ws:List y8.H8)(n:aa0):Option Nat:=match y8.xG I7 n with
 |some k=>some k
 |none=>(ws.find? fun f=>f.nm == n).map (·.ps.length)
theorem Qz{ws:List y8.H8}{r:aa1}{n:aa0}{k:Nat}(hl:(ws.map I9++r).length≤1000)(h:bH ws n=some k):l7 84 [.dt (.row (ws.map I9++r)),y7 x8 n] (.o7 [inA (k:Int),o6 true]):=by
 unfold bH y8.xG at h;split at h
 ·rename_i k' hp;cases h;rw[ZaG]at hp;obtain⟨x,hx,rfl⟩:=hp;have e:=List.find?_some hx;have hm:=List.mem_of_find?_eq_some hx;obtain⟨i,hi⟩:=List.mem_iff_getElem?.1 hm;obtain⟨s,a⟩:=x;have e:s=n:=by simpa using e
  subst e;exact b3H (a0n hi)
 ·rename_i hp;rw[ZaG]at h;obtain⟨f,hf,rfl⟩:=h;rw[Option.map_eq_none_iff,List.find?_eq_none]at hp;exact b5I (a0p fun x hx e=>hp x hx (by simp[e])) (a0q hl hf)
abbrev EP:AV:=.agg [stA [],stA [],.nil,o6 false,inA 0,stA [],stA [],inA 0,stA [],stA [],stA [],stA [],stA [],.nil,.nil]
theorem bP.pure{P:Program}{G:World→Prop}{f:FuncId}{args:List AV}{r:AV}(hG:∀w w',G w→Below w.heap.size w w'→G w')(h:bP P G f args [] r [])(hr:r.jg=true):wR P G f args r :=
 ⟨h.1,fun ok w vs hw ha=>by
  refine (h.2 (fun _=>False) (M0 fun b=>ok b∧b < w.heap.size) w vs (fun w' hb=>hG w w' hw hb.below) ?_ (RL.zx (fun b hb hl=>⟨hb,hl⟩) ha)).mono ?_
  ·have oG:∀b x,lk [] b≠some x:=fun b x h=>by simp[lk]at h
   exact⟨fun b x h=>absurd h (oG b x),fun b x _ h=>absurd h (oG b x),fun b _ x _ _ h=>absurd h (oG b x),(fun b g h=>by cases h),(fun b v h=>by cases h),fun b hb=>hb.2⟩
  ·rintro e w' ⟨v,M',h1,h2,_,_,h5⟩;exact⟨v,h1,h2.below.below,RV.jg _ _ hr h5⟩⟩
abbrev mcX(p n:aa0):List (Option Bx):=[some (.cells [stA p,stA n]),some (.cells [stA [],stA [],.nil,o6 false,inA 0,stA [],stA [],inA 0,stA [],stA [],stA [],stA [],stA [],.nil,.nil])]
abbrev yw(es:aa1)(p n:aa0)(i:Int):AS:=⟨stt 35 [(0,.dt (.row es)),(3,.ptr 0 0),(4,.ptr 1 0),(6,inA i)],mcX p n⟩
noncomputable abbrev UA:Code:=V5 (ai f134) [1,0,1,0,0]
theorem b8k{es:aa1}{p n:aa0}{i:Nat}{f:y8.H8}(h:E5 es (i:Int) 32 (I9 f))(hi:i < es.length)(hl:es.length≤1000):D7 EX UA (yw es p n i) .I4 (yw es p n ((i+1:Nat):Int)) :=
 tW [.av (inA es.length),yT,.av (.pin ((I9 f).map .dt)),.no,.av (inA ((i+1:Nat):Int))] [] [0,3,4,6] 2 [(vi ↑es.length)=(vi ↑es.length),Bt .lss 3 7 9 ↑i ↑es.length bT,E5 es ↑i 32 (I9 f),Bk .add 3 11 1 ↑i (vi (↑(i+1)))]     ⟨rfl,F8 (UV J),h,N8 J J J,Z⟩
theorem b8l{es:aa1}{p n:aa0}{i:Nat}(hi:i=es.length):D7 EX UA (yw es p n i) (.out 0) (yw es p n i) :=
 tW [.av (inA es.length),yF] [] [0,3,4,6] 2 [(vi ↑es.length)=(vi ↑es.length),Bt .lss 3 7 9 ↑i ↑es.length bF]     ⟨rfl,F8 (WF J),Z⟩
theorem b0O{ws:List y8.H8}{p n:aa0}(hl:(ws.map I9).length≤1000):∀(s:List y8.H8) (i:Nat),ws.drop i=s→i≤ws.length→Lps EX UA (yw (ws.map I9) p n i) (.out 0) (yw (ws.map I9) p n ws.length):=by
 intro s
 induction s with
 |nil =>
  intro i hd hi;have e1:=congrArg List.length hd;rw[Za7,List.length_nil]at e1;obtain rfl:i=ws.length:=J;exact .stop (b8l (by rw[EQ])) (fun h=>by cases h)
 |cons x s ih =>
  intro i hd hi;have hx:ws[i]?=some x:=by rw[←Zak,hd];rfl
  have hlt:=(Pi.1 hx).1;have h:=rW (r:=[]) hx;rw[ZaI]at h;exact .more (b8k h (by rw[EQ];exact hlt) hl) (ih (i+1) (by rw[←Zaj,hd];rfl) J)
theorem Zb{ws:List y8.H8}{p n:aa0}(hl:(ws.map I9).length≤1000):l7 134 [.dt (.row (ws.map I9)),y7 p n] (.o7 [EP,o6 false]):=by
 refine bP.pure (fun w w' h hb=>h.below hb) ?_ rfl;have ht:=(b0O (p:=p) (n:=n) hl ws 0 rfl (ww _)).tri;generalize ws.map I9=es at *;generalize ((ws.length:Nat):Int)=k at *;exact sW 0 [] [] [.inv [0,3,4,6] 2 (.out 0) (yw es p n k)] [_] func134 ⟨ht,Z⟩
abbrev dW(es ex:aa1)(m:Int):List (Option Bx):=[some (.cells [.own 1 es.length,.dt (.row ex),inA m]),some (.buf 70 32 es)]
theorem b0P{es ex:aa1}{m:Int}(h0:1≤m)(h1:m≤500):F7 133 [.ptr 0 0] (dW es ex m) (o6 true) (dW es ex (m - 1)) :=
 sW 2 [0,1] [.av (inA (m - 1)),yT] [] [Bk .sub 3 6 1 m (vi (m - 1)),Bk .geq 3 13 0 (m - 1) bT] func133 ⟨dO rfl J J,Z7 (UV J),Z⟩
theorem b3I{es:aa1}{n:aa0}{m:Int}{f:y8.H8}(h:f.nm=n):l7 137 [.pin [.dt (.row es),.dt (.row [I8 f]),inA m],y7 x8 n] (.o7 [inA f.ps.length,o6 true]) :=
 pW [.no,.no,.no,yT,.no,.av (inA f.ps.length)] [.run 1] [Bn .eql 28 (.tmp 23) (.tmp 24) (Value.agg #[str x8,str f.nm]) (Value.agg #[str x8,str n]) bT,(vi ↑f.ps.length)=(vi (↑(List.map L9 f.ps).length))] func137 ⟨aO (by rw[UV h];rfl),Ko _,Z⟩
theorem b3J{es:aa1}{n:aa0}{m k:Int}{f:y8.H8}(h:f.nm≠n)(ha:l7 84 [.dt (.row es),y7 x8 n] (.o7 [inA k,o6 true])):l7 137 [.pin [.dt (.row es),.dt (.row [I8 f]),inA m],y7 x8 n] (.o7 [inA k,o6 true]) :=
 pW [.no,.no,.no,yF,.no,.no,.no,.av (.o7 [inA k,o6 true])] [.run 2] [Bn .eql 28 (.tmp 23) (.tmp 24) (Value.agg #[str x8,str f.nm]) (Value.agg #[str x8,str n]) bF,_] func137 ⟨aO (by rw[WF h];rfl),ha,Z⟩
theorem b0Q{ws:List y8.H8}{n:aa0}{m:Int}{f:y8.H8}{k:Nat}(hl:(ws.map I9).length≤1000)(h:y8.arity I7 ws f.nm f.ps n=some k):l7 137 [.pin [.dt (.row (ws.map I9)),.dt (.row [I8 f]),inA m],y7 x8 n] (.o7 [inA (k:Int),o6 true]):=by
 unfold y8.arity at h;split at h
 ·rename_i e;cases h;exact b3I e
 ·rename_i e;have ha:=Qz (ws:=ws) (r:=[]) (n:=n) (k:=k) (by rw[ZaI];exact hl) h;rw[ZaI]at ha;exact b3J e ha
end Go.Proofs.YthhknjlmjefklaaGreatDoor
namespace Go.Proofs.YthhknjlmjefklaaGreatDoor
open Go.Proofs.Tryz
open Go.RowKit
open Te
abbrev wB(es:aa1):Option Bx:=some (.buf 70 32 es)
theorem a8J{es os rs:aa1}{n:aa0}{form o:Ob}(h1:l7 63 [x9 form] (.o7 [.dt (.row os),o6 true]))(n0:os.length≠0)(h0:E5 os 0 7 (D9 (Q5 n)))(hs:fU os 7 1 (os.length:Int) rs)(hb:l7 135 [y7 x8 n] (o6 true))(he:l7 jh [stA n,.dt (.row rs)] (.o7 [x9 o,o6 true])):F7 136 [.own 0 es.length,x9 form] [wB es] (.o7 [x9 o,o6 true,inA 0]) [wB es] :=
 sW 1 [0] [.av (.o7 [.dt (.row os),o6 true]),.av (inA os.length),yF,.av (.pin ((D9 (Q5 n)).map .dt)),.no,.av (.pin ((D9 (Q5 n)).map .dt)),.av (.dt (.row rs)),yT,.av (.o7 [x9 o,o6 true])] [] [_,(vi ↑os.length)=(vi ↑os.length),Bk .eql 3 28 0 ↑os.length bF,_,_,_,(none:Option Int)=none∨(none:Option Int)=none,_,_] func136 ⟨h1,rfl,F6 (WF J),h0,h0,hs,.inl rfl,hb,he,Z⟩
theorem b3K(p n:aa0):l7 92 [y7 p n] (y9 ⟨1,p,n,V9,[]⟩):=pV [] [] func92 trivial
theorem a5S(p n:aa0):l7 130 [.dt (.row []),y7 p n] (.o7 [y9 N9,o6 false]):=pW [.no,.no] [.run 1] [] func130 trivial
abbrev sZ:FuncId:=103
theorem b5J{es ex:aa1}{m:Int}{o:Ob}{t:Te}(hk:o.kind=1)(hc:l7 13 [x9 o] (y9 t)):F7 sZ [.ptr 0 0,x9 o,.dt (.row [])] (dW es ex m) (.o7 [y9 t,inA 0]) (dW es ex m) :=
 sW 2 [0,1] [yT,.av (y9 t)] [] [Bk .eql 3 29 1 o.kind bT,_] func103 ⟨F6 (dh hk),hc,Z⟩
theorem b5K{es ex:aa1}{m:Int}{o:Ob}{t:Te}(hk:o.kind=2)(hv:l7 129 [y7 o.sp o.sn] (o6 false))(hc:l7 13 [x9 o] (y9 t)):F7 sZ [.ptr 0 0,x9 o,.dt (.row [])] (dW es ex m) (.o7 [y9 t,inA 0]) (dW es ex m) :=
 sW 2 [0,1] [yF,yF,yT,yF,.av (y9 t)] [] [Bk .eql 3 29 1 o.kind bF,Bk .eql 3 29 3 o.kind bF,Bk .eql 3 29 2 o.kind bT,_,_] func103 ⟨F6 (bI J),F6 (bI J),F6 (dh hk),hv,hc,Z⟩
theorem b5L{es ex:aa1}{m:Int}{o:Ob}{t:Te}(hk:o.kind=2)(hv:l7 129 [y7 o.sp o.sn] (o6 true))(ha:l7 130 [.dt (.row []),y7 o.sp o.sn] (.o7 [y9 N9,o6 false]))(hc:l7 92 [y7 o.sp o.sn] (y9 t)):F7 sZ [.ptr 0 0,x9 o,.dt (.row [])] (dW es ex m) (.o7 [y9 t,inA 0]) (dW es ex m) :=
 sW 2 [0,1] [yF,yF,yT,yT,.av (.o7 [y9 N9,o6 false]),.av (y9 t)] [] [Bk .eql 3 29 1 o.kind bF,Bk .eql 3 29 3 o.kind bF,Bk .eql 3 29 2 o.kind bT,_,_,_] func103 ⟨F6 (bI J),F6 (bI J),F6 (dh hk),hv,ha,hc,Z⟩
theorem b5M{es ex os rs:aa1}{m m':Int}{n:aa0}{form o:Ob}{t:Te}(hk:form.kind=4)(h1:l7 63 [x9 form] (.o7 [.dt (.row os),o6 true]))(n0:os.length≠0)(h0:E5 os 0 7 (D9 (Q5 n)))(hs:fU os 7 1 (os.length:Int) rs)
  (hq:n ∉ y8.Di) (hm:l7 134 [.dt (.row es),y7 x8 n] (.o7 [EP,o6 false])) (hb:l7 135 [y7 x8 n] (o6 true)) (hsp:F7 133 [.ptr 0 0] (dW es ex m) (o6 true) (dW es ex (m - 1))) (he:F7 136 [.own 0 es.length,x9 form] [wB es] (.o7 [x9 o,o6 true,inA 0]) [wB es]) (ht:F7 sZ [.ptr 0 0,x9 o,.dt (.row [])] (dW es ex (m - 1)) (.o7 [y9 t,inA 0]) (dW es ex m')):F7 sZ [.ptr 0 0,x9 form,.dt (.row [])] (dW es ex m) (.o7 [y9 t,inA 0]) (dW es ex m'):=by
 have ne:∀x∈y8.Di,(decide (x8=x8) && decide (n=x))=false:=fun x hx=>by
  rw[WF (fun e:n=x=>hq (e.symm ▸ hx)),Bool.and_false]
 exact sW 2 [0,1] [yF,yF,yF,.av (.o7 [.dt (.row os),o6 true]),.av (inA os.length),yF,.av (.pin ((D9 (Q5 n)).map .dt)),.no,.av (.pin ((D9 (Q5 n)).map .dt)),.av (.dt (.row rs)),.av (y7 x8 [113,117,111,116,101]),yF,.av (y7 x8 [108,101,116]),yF,.av (y7 x8 [108,101,116,42]),yF,.av (.o7 [EP,o6 false]),yT,.no] [.P5 33 1 [0,1] (o6 true) [some (.cells [.own 1 es.length,.dt (.row ex),inA (m - 1)]),some (.buf 70 32 es)],.P5 35 5 [1] (.o7 [x9 o,o6 true,inA 0]) [some (.buf 70 32 es)],.P5 38 3 [0,1] (.o7 [y9 t,inA 0]) [some (.cells [.own 1 es.length,.dt (.row ex),inA m']),some (.buf 70 32 es)]] [Bk .eql 3 29 1 form.kind bF,Bk .eql 3 29 3 form.kind bF,Bk .eql 3 29 2 form.kind bF,l7 63 [(x9 form)] (.o7 [(.dt (.row os)),(o6 true)]),(vi ↑os.length)=(vi ↑os.length),Bk .eql 3 64 0 ↑os.length bF,E5 os 0 7 (D9 (Q5 n)),E5 os 0 7 (D9 (Q5 n)),fU os 7 ((some 1).getD 0) (none.getD ↑os.length) rs,(none:Option Int)=none∨(none:Option Int)=none,l7 29 [(stA [113,117,111,116,101])] (y7 x8 [113,117,111,116,101]),Bn .eql 28 (.tmp 81) (.tmp 83) (Value.agg #[str (Q5 n).sp,str (Q5 n).sn]) (Value.agg #[str x8,str [113,117,111,116,101]]) bF,l7 29 [(stA [108,101,116])] (y7 x8 [108,101,116]),Bn .eql 28 (.tmp 81) (.tmp 94) (Value.agg #[str (Q5 n).sp,str (Q5 n).sn]) (Value.agg #[str x8,str [108,101,116]]) bF,l7 29 [(stA [108,101,116,42])] (y7 x8 [108,101,116,42]),Bn .eql 28 (.tmp 81) (.tmp 103) (Value.agg #[str (Q5 n).sp,str (Q5 n).sn]) (Value.agg #[str x8,str [108,101,116,42]]) bF,l7 134 [(.dt (.row es)),(y7 (Q5 n).sp (Q5 n).sn)] (.o7 [(.agg [(stA []),(stA []),.nil,(o6 false),(inA 0),(stA []),(stA []),(inA 0),(stA []),(stA []),(stA []),(stA []),(stA []),.nil,.nil]),(o6 false)]),(es.length)=(es.length),l7 135 [(y7 (Q5 n).sp (Q5 n).sn)] (o6 true),F7 133 [AV.ptr 0 0] [some (Bx.cells [AV.own 1 es.length,AV.dt (Dt.row ex),AV.dt (Dt.val (vi m))]),some (Bx.buf 70 32 es)] (o6 true) [some (Bx.cells [AV.own 1 es.length,AV.dt (Dt.row ex),inA (m - 1)]),some (Bx.buf 70 32 es)],F7 136 [AV.own 0 es.length,AV.agg [AV.dt (Dt.val (vi form.kind)),AV.dt (Dt.val (str form.num)),AV.dt (Dt.val (str form.den)),AV.dt (Dt.val (str form.sp)),AV.dt (Dt.val (str form.sn)),AV.dt (Dt.val (str form.text)),AV.dt (Dt.row (List.map Ob.enc form.pair))]] [some (Bx.buf 70 32 es)] (AV.o7 [x9 o,o6 true,inA 0]) [some (Bx.buf 70 32 es)],F7 103 [AV.ptr 0 0,AV.agg [AV.dt (Dt.val (vi o.kind)),AV.dt (Dt.val (str o.num)),AV.dt (Dt.val (str o.den)),AV.dt (Dt.val (str o.sp)),AV.dt (Dt.val (str o.sn)),AV.dt (Dt.val (str o.text)),AV.dt (Dt.row (List.map Ob.enc o.pair))],AV.dt (Dt.row [])] [some (Bx.cells [AV.own 1 es.length,AV.dt (Dt.row ex),AV.dt (Dt.val (vi (m - 1)))]),some (Bx.buf 70 32 es)] (AV.o7 [y9 t,inA 0]) [some (Bx.cells [AV.own 1 es.length,AV.dt (Dt.row ex),inA m']),some (Bx.buf 70 32 es)]] func103     ⟨F6 (bI J),F6 (bI J),F6 (bI J),h1,rfl,F6 (WF J),h0,h0,hs,.inl rfl,O1 _,aO (ne _ O),O1 _,aO (ne _ O),O1 _,aO (ne _ O),hm,rfl,hb,hsp,he,ht,Z⟩
abbrev trC(form:Ob)(n:aa0):List (Option Bx):=[some (.cells ((D9 form).map .dt)),some (.cells [inA 0,stA [],stA [],inA 0,stA [],stA [],stA [],stA [],stA [],.nil,.nil]),some (.cells [stA x8,stA n]),some (.cells [stA [],stA [],.nil,o6 false,inA 0,stA [],stA [],inA 0,stA [],stA [],stA [],stA [],stA [],.nil,.nil])]
abbrev qK(es ex:aa1)(m:Int)(form:Ob)(n:aa0)(os ts:aa1)(i:Int):AS:=⟨stt 214 [(0,.ptr 0 0),(2,.dt (.row [])),(4,.ptr 2 0),(6,.ptr 3 0),(12,.ptr 4 0),(13,.dt (.row os)),(23,.own 6 ts.length),(24,inA i)],dW es ex m++(trC form n++[some (.buf 41 11 ts)])⟩
abbrev UB(es ex:aa1)(m:Int)(form:Ob)(n:aa0)(os:aa1):AS:=⟨stt 214 [(0,.ptr 0 0),(2,.dt (.row [])),(4,.ptr 2 0),(6,.ptr 3 0),(12,.ptr 4 0),(13,.dt (.row os)),(23,.nil),(24,inA 0)],dW es ex m++trC form n⟩
noncomputable abbrev FT:Code:=V5 (ai f103) [1,1,1,1,1,1,1,1,0,1,0,0]
theorem b8m{es ex os ts:aa1}{m m':Int}{form o:Ob}{n:aa0}{i:Nat}{t:Te}(hi:i < os.length)(hl:os.length≤1000)(he:ts.length≤1000)(hx:E5 os (i:Int) 7 (D9 o))(ht:F7 sZ [.ptr 0 0,x9 o,.dt (.row [])] (dW es ex m) (.o7 [y9 t,inA 0]) (dW es ex m')):D7 (H9 2) FT (qK es ex m form n os ts i) .I4 (qK es ex m' form n os (ts++[C9 t]) ((i+1:Nat):Int)) :=
 tW [.av (inA os.length),yT,.av (.pin ((D9 o).map .dt)),.no,.av (.un),.av (inA ((i+1:Nat):Int))] [.P5 43 6 [0,1] (.o7 [y9 t,inA 0]) [some (.cells [.own 1 es.length,.dt (.row ex),inA m']),some (.buf 70 32 es)]] [0,2,4,6,12,13,23,24] 7 [(vi ↑os.length)=(vi ↑os.length),Bt .lss 3 173 175 ↑i ↑os.length bT,E5 os ↑i 7 (D9 o),F7 103 [AV.ptr 0 0,AV.agg [AV.dt (Dt.val (vi o.kind)),AV.dt (Dt.val (str o.num)),AV.dt (Dt.val (str o.den)),AV.dt (Dt.val (str o.sp)),AV.dt (Dt.val (str o.sn)),AV.dt (Dt.val (str o.text)),AV.dt (Dt.row (List.map Ob.enc o.pair))],AV.dt (Dt.row [])] [some (Bx.cells [AV.own 1 es.length,AV.dt (Dt.row ex),AV.dt (Dt.val (vi m))]),some (Bx.buf 70 32 es)] (AV.o7 [y9 t,inA 0]) [some (Bx.cells [AV.own 1 es.length,AV.dt (Dt.row ex),inA m']),some (Bx.buf 70 32 es)],(ts.length)=(ts.length),X8 176 ((ts++[C9 t]).length),S9 11 [C9 t],Bk .add 3 177 1 ↑i (vi (↑(i+1)))]     ⟨rfl,F8 (UV J),hx,ht,rfl,ig J (by simp;omega),Dj t,N8 J J J,Z⟩
theorem b8n{es ex os ts:aa1}{m:Int}{form:Ob}{n:aa0}{i:Nat}(hi:i=os.length):D7 (H9 2) FT (qK es ex m form n os ts i) (.out 2) (qK es ex m form n os ts i) :=
 tW [.av (inA os.length),yF] [] [0,2,4,6,12,13,23,24] 7 [(vi ↑os.length)=(vi ↑os.length),Bt .lss 3 173 175 ↑i ↑os.length bF]     ⟨rfl,F8 (WF J),Z⟩
theorem b5N{es ex os rs ts:aa1}{m m' k:Int}{n:aa0}{form:Ob}{t:Te}(hk:form.kind=4)(h1:l7 63 [x9 form] (.o7 [.dt (.row os),o6 true]))(n0:os.length≠0)(h0:E5 os 0 7 (D9 (Q5 n)))(hs:fU os 7 1 (os.length:Int) rs)
  (hq:n ∉ y8.Di) (hm:l7 134 [.dt (.row es),y7 x8 n] (.o7 [EP,o6 false])) (hb:l7 135 [y7 x8 n] (o6 false)) (hlp:D7 (H9 2) (.loop FT) (UB es ex m form n rs) (.out 2) (qK es ex m' form n rs ts k)) (ha:l7 137 [.pin [.dt (.row es),.dt (.row ex),inA m'],y7 x8 n] (.o7 [inA ts.length,o6 true])) (hp:l7 23 [y7 x8 n,.dt (.row ts)] (y9 t)):F7 sZ [.ptr 0 0,x9 form,.dt (.row [])] (dW es ex m) (.o7 [y9 t,inA 0]) (dW es ex m'):=by
 have ne:∀x∈y8.Di,(decide (x8=x8) && decide (n=x))=false:=fun x hx=>by
  rw[WF (fun e:n=x=>hq (e.symm ▸ hx)),Bool.and_false]
 exact sW 2 [0,1] [yF,yF,yF,.av (.o7 [.dt (.row os),o6 true]),.av (inA os.length),yF,.av (.pin ((D9 (Q5 n)).map .dt)),.no,.av (.pin ((D9 (Q5 n)).map .dt)),.av (.dt (.row rs)),.av (y7 x8 [113,117,111,116,101]),yF,.av (y7 x8 [108,101,116]),yF,.av (y7 x8 [108,101,116,42]),yF,.av (.o7 [EP,o6 false]),yF,.av (.o7 [inA ts.length,o6 true]),.av (inA ts.length),yF,.av (y9 t)] [.inv [0,2,4,6,12,13,23,24] 6 (.out 2) (qK es ex m' form n rs ts k)] [Bk .eql 3 29 1 form.kind bF,Bk .eql 3 29 3 form.kind bF,Bk .eql 3 29 2 form.kind bF,l7 63 [(x9 form)] (.o7 [(.dt (.row os)),(o6 true)]),(vi ↑os.length)=(vi ↑os.length),Bk .eql 3 64 0 ↑os.length bF,E5 os 0 7 (D9 (Q5 n)),E5 os 0 7 (D9 (Q5 n)),fU os 7 ((some 1).getD 0) (none.getD ↑os.length) rs,(none:Option Int)=none∨(none:Option Int)=none,l7 29 [(stA [113,117,111,116,101])] (y7 x8 [113,117,111,116,101]),Bn .eql 28 (.tmp 81) (.tmp 83) (Value.agg #[str (Q5 n).sp,str (Q5 n).sn]) (Value.agg #[str x8,str [113,117,111,116,101]]) bF,l7 29 [(stA [108,101,116])] (y7 x8 [108,101,116]),Bn .eql 28 (.tmp 81) (.tmp 94) (Value.agg #[str (Q5 n).sp,str (Q5 n).sn]) (Value.agg #[str x8,str [108,101,116]]) bF,l7 29 [(stA [108,101,116,42])] (y7 x8 [108,101,116,42]),Bn .eql 28 (.tmp 81) (.tmp 103) (Value.agg #[str (Q5 n).sp,str (Q5 n).sn]) (Value.agg #[str x8,str [108,101,116,42]]) bF,l7 134 [(.dt (.row es)),(y7 (Q5 n).sp (Q5 n).sn)] (.o7 [(.agg [(stA []),(stA []),.nil,(o6 false),(inA 0),(stA []),(stA []),(inA 0),(stA []),(stA []),(stA []),(stA []),(stA []),.nil,.nil]),(o6 false)]),(es.length)=(es.length),l7 135 [(y7 (Q5 n).sp (Q5 n).sn)] (o6 false),D7 (H9 2) (.loop (V5 (ai f103) [1,1,1,1,1,1,1,1,0,1,0,0])) (UB es ex m form n rs) (.out 2) (qK es ex m' form n rs ts k),l7 137 [(.pin [(.dt (.row es)),(.dt (.row ex)),(inA m')]),(y7 x8 n)] (.o7 [(inA ↑ts.length),(o6 true)]),(es.length)=(es.length),(vi ↑ts.length)=(vi ↑ts.length),Bt .neq 3 206 208 ↑ts.length ↑ts.length bF,l7 23 [(y7 x8 n),(.dt (.row ts))] (y9 t),(ts.length)=(ts.length)] func103     ⟨F6 (bI J),F6 (bI J),F6 (bI J),h1,rfl,F6 (WF J),h0,h0,hs,.inl rfl,O1 _,aO (ne _ O),O1 _,aO (ne _ O),O1 _,aO (ne _ O),hm,rfl,hb,hlp,ha,rfl,rfl,H7 (UV rfl),hp,rfl,Z⟩
theorem b5O{n:aa0}{l:List Tr}{o:Tr}(h:y8.expand n l=some o):l7 135 [y7 x8 n] (o6 true):=by
 unfold y8.expand at h;split at h
 ·rename_i e;subst e;exact b5C
 split at h
 ·rename_i e;subst e;exact b3F
 split at h
 ·rename_i e;subst e;exact b5D
 split at h
 ·rename_i e;subst e;exact b5E
 split at h
 ·rename_i e;subst e;exact b5F
 split at h
 ·rename_i e;subst e;exact b5G
 ·cases h
theorem PE{n:Int}(h:n.natAbs < 10 ^ 4):(Tr.num (n:Rat)).Ok 10000:=Tr.Ok.mono (k:=4) O (II h)
theorem b0R{ws:List y8.H8}{f:y8.H8}(hw:(ws.map I9).length≤1000):∀(fuel:Nat),
  (∀(x:Tr) (m m':Int) (t:Te),y8.sJ (y8.arity I7 ws f.nm f.ps) fuel m x=some (t,m')→0≤m→m≤500→(0≤m'∧m'≤m)∧t.Bd∧F7 sZ [.ptr 0 0,o9 x,.dt (.row [])] (dW (ws.map I9) [I8 f] m) (.o7 [y9 t,inA 0]) (dW (ws.map I9) [I8 f] m')) ∧
  (∀(l:List Tr) (m m':Int) (ts:List Te),y8.AQ (y8.arity I7 ws f.nm f.ps) fuel m l=some (ts,m')→0≤m→m≤500→(0≤m'∧m'≤m)∧ts.length=l.length∧(∀t∈ts,t.Bd)∧∀(form:Ob) (n:aa0) (os:List Tr) (i:Nat) (us:List Te),os.length≤500→us.length=i→i≤os.length→os.drop i=l →
   Lps (H9 2) FT (qK (ws.map I9) [I8 f] m form n (G7 os) (aT us) i) (.out 2) (qK (ws.map I9) [I8 f] m' form n (G7 os) (aT (us++ts)) os.length)):=by
 intro fuel
 induction fuel with
 |zero=>exact⟨fun x m m' t h=>by simp[y8.sJ]at h,fun l m m' ts h=>by simp[y8.AQ]at h⟩
 |succ fuel ih =>
  obtain⟨ih1,ih2⟩:=ih;refine⟨?_,?_⟩
  ·intro x m m' t h h0 h5;cases x with
   |num q =>
    rw[y8.sJ]at h;split at h
    ·rename_i hq;cases h;refine⟨⟨h0,Int.le_refl _⟩,?_,b5J rfl (lZ _)⟩;have hok:(Tr.num q).Ok 10000:=by
      rcases hq with rfl | rfl | rfl
      ·exact PE (n:=0) O
      ·exact PE (n:=1) O
      ·exact PE (n:=-1) O
     exact .mk _ (hok.wf O) (hok.sm O) (ww _) (ww _) (ww _) (fun x hx=>by cases hx)
    ·cases h
   |txt s=>simp[y8.sJ]at h
   |sym p n =>
    rw[y8.sJ]at h;split at h
    ·rename_i hl;have hv:=VT p n J J;split at h
     ·rename_i e;cases h;rw[e]at hv;exact⟨⟨h0,Int.le_refl _⟩,.mk _ DJ (.mk _ (ww _) (ww _) (fun x hx=>by cases hx)) (by show p.length≤_;omega) (by show n.length≤_;omega) (ww _) (fun x hx=>by cases hx),b5L rfl hv (a5S _ _) (b3K _ _)⟩
     ·rename_i e;cases h;rw[Zal.2 e]at hv;have hok:(Tr.sym p n).Ok 10000:=⟨J,J⟩;exact⟨⟨h0,Int.le_refl _⟩,.mk _ (hok.wf O) (hok.sm O) (ww _) (ww _) (ww _) (fun x hx=>by cases hx),b5K rfl hv (lZ _)⟩
    ·cases h
   |cons a d =>
    rw[y8.sJ]at h;split at h
    case h_2=>cases h
    rename_i p n l hi;have hx:=wH hi;split at h
    case isFalse=>cases h
    rename_i hc;obtain⟨rfl,hn,hs,hl⟩:=hc;rw[hx];have hk:(Tr.list (Tr.sym x8 n::l)).ob.kind=4:=rfl;have hlen:(G7 (Tr.sym x8 n::l)).length≠0:=by unfold G7;rw[EQ];simp
    have hit:=zo (l:=Tr.sym x8 n::l) (by rw[Za1];omega);split at h
    ·rename_i hm;split at h
     case h_2=>cases h
     rename_i o ho;split at h
     case isFalse=>cases h
     rename_i h1;obtain⟨⟨g1,g2⟩,g3,g4⟩:=ih1 o (m - 1) m' t h J J;have hb:=b5O ho;exact⟨⟨g1,J⟩,g3,b5M hk hit hlen (rE _ _) (rD _ _) hs (Zb hw) hb (b0P h1 h5) (a8J hit hlen (rE _ _) (rD _ _) hb (a8I ho J)) g4⟩
    ·rename_i hm;split at h
     case h_2=>cases h
     rename_i ts m1 hts;split at h
     case isFalse=>cases h
     rename_i har;cases h;obtain⟨⟨g1,g2⟩,g3,g4,g5⟩:=ih2 l m m' ts hts h0 h5;have hlp:=g5 (Tr.list (Tr.sym x8 n::l)).ob n l 0 [] hl rfl (ww _) rfl;have ht:D7 (H9 2) (.loop FT) (UB (ws.map I9) [I8 f] m (Tr.list (Tr.sym x8 n::l)).ob n (G7 l)) (.out 2) (qK (ws.map I9) [I8 f] m' (Tr.list (Tr.sym x8 n::l)).ob n (G7 l) (aT ts) l.length):=D7.aS 23 41 11 (by show 23 < 214;omega) rfl hlp.tri;refine⟨⟨g1,g2⟩,.mk _ DJ (.mk _ (ww _) (ww _) (fun x hx=>by cases hx)) (by show x8.length≤_;decide) (by show n.length≤_;omega) (by show ts.length≤_;omega) g4,b5N hk hit hlen (rE _ _) (rD _ _) hs (Zb hw) (b5H hm) ht ?_ (IQ _ _ _)⟩
     have hay:=b0Q (m:=m') hw har;unfold aT;rw[EQ];exact hay
  ·intro l m m' ts h h0 h5;cases l with
   |nil =>
    rw[y8.AQ]at h;cases h;refine⟨⟨h0,Int.le_refl _⟩,rfl,(fun t ht=>by cases ht),fun form n os i us ho hu hi hd=>?_⟩;have e1:=congrArg List.length hd;rw[Za7,List.length_nil]at e1;obtain rfl:i=os.length:=J;rw[ZaI];exact .stop (b8n (by unfold G7;rw[EQ])) (fun h=>by cases h)
   |cons x r =>
    rw[y8.AQ]at h;split at h
    case h_2=>cases h
    rename_i t m1 ht;split at h
    case h_2=>cases h
    rename_i ts' m2 hts;cases h;obtain⟨⟨g1,g2⟩,g3,g4⟩:=ih1 x m m1 t ht h0 h5;obtain⟨⟨k1,k2⟩,k3,k4,k5⟩:=ih2 r m1 m' ts' hts g1 J;refine⟨⟨k1,J⟩,by rw[Za1,Za1,k3],fun y hy=>?_,fun form n os i us ho hu hi hd=>?_⟩
    ·rcases Zao.1 hy with rfl | hy
     ·exact g3
     ·exact k4 y hy
    ·have hx:os[i]?=some x:=by rw[←Zak,hd];rfl
     have hlt:=(Pi.1 hx).1;have hix:E5 (G7 os) (i:Int) 7 (D9 x.ob):=⟨Int.natCast_nonneg _,by rw[Int.toNat_natCast];unfold G7;rw[Zag,hx];rfl,rfl⟩;have hs:=b8m (form:=form) (n:=n) (ts:=aT us) (by unfold G7;rw[EQ];exact hlt) (by unfold G7;rw[EQ];omega) (by rw[EQ];omega) hix g4;have e:aT us++[C9 t]=aT (us++[t]):=by unfold aT;rw[ZaL,oH]
     rw[e]at hs;have hn:=k5 form n os (i+1) (us++[t]) ho (by simp[hu]) hlt (by rw[←Zaj,hd];rfl);rw[Zah,List.singleton_append]at hn;exact .more hs hn
theorem a8K{es ex:aa1}{m':Int}{form:Ob}{t:Te}(h:F7 sZ [.ptr 0 0,x9 form,.dt (.row [])] (dW es ex 500) (.o7 [y9 t,inA 0]) (dW es ex m'))(hv:l7 104 [y9 t] (o6 true)):F7 65 [.own 0 es.length,.dt (.row ex),x9 form] [wB es] (.o7 [y9 t,inA 0]) [wB es] :=
 sW 1 [0] [.no,yT] [.P5 2 2 [3,0] (.o7 [y9 t,inA 0]) [some (.cells [.own 1 es.length,.dt (.row ex),inA m']),some (.buf 70 32 es)]] [_,_] func65 ⟨h,hv,Z⟩
theorem a8L{ws:List y8.H8}{f:y8.H8}(hw:ws.length≤1000){x:Tr}{t:Te}(h:y8.Fv (y8.arity I7 ws f.nm f.ps) x=some t):F7 65 [.own 0 (ws.map I9).length,.dt (.row [I8 f]),o9 x] [wB (ws.map I9)] (.o7 [y9 t,inA 0]) [wB (ws.map I9)]:=by
 unfold y8.Fv at h;split at h
 case h_2=>cases h
 rename_i t' m' ht;split at h
 case isFalse=>cases h
 rename_i hv;cases h;obtain⟨_,hb,hs⟩:=(b0R (by rw[EQ];exact hw) 100).1 x 500 m' t ht O O;have h8:=a7h hb;rw[hv]at h8;exact a8K hs h8
abbrev tq(os:aa1)(nm:aa0)(i:Int):AS:=⟨stt 43 [(0,.dt (.row os)),(1,stA nm),(4,.ptr 0 0),(6,inA i)],[some (.cells [inA 0,stA [],stA [],stA [],stA [],stA [],.nil])]⟩
abbrev UC(b:Ob):AS:=⟨stt 43 [(4,.ptr 0 0),(5,o6 true)],[some (.cells ((D9 b).map .dt))]⟩
noncomputable abbrev FU:Code:=V5 (ai f66) [1,0,1,0,0]
theorem b8o{os:aa1}{nm p n:aa0}{i:Nat}{x b:Ob}(hi:i+1 < os.length)(hl:os.length≤1000)(hx:E5 os (i:Int) 7 (D9 x))(h:l7 63 [x9 x] (.o7 [.dt (.row [D9 (Tr.sym p n).ob,D9 b]),o6 true]))(hn:(decide (p=x8) && decide (n=nm))=false):D7 EX FU (tq os nm i) .I4 (tq os nm ((i+1:Nat):Int)) :=
 tW [.av (inA ((i+1:Nat):Int)),.av (inA os.length),yT,.av (.pin ((D9 x).map .dt)),.av (.o7 [.dt (.row [D9 (Tr.sym p n).ob,D9 b]),o6 true]),.no,.no,.no,.av (y7 x8 nm),yF,.av (inA ((i+1:Nat):Int))] [] [0,1,4,6] 1 [Bk .add 3 9 1 ↑i (vi (↑(i+1))),(vi ↑os.length)=(vi ↑os.length),Bt .lss 3 10 12 (↑(i+1)) ↑os.length bT,_,_,l7 29 [(stA nm)] (y7 x8 nm),Bn .eql 28 (.tmp 34) (.tmp 36) (Value.agg #[str (Tr.sym p n).ob.sp,str (Tr.sym p n).ob.sn]) (Value.agg #[str x8,str nm]) bF,Bk .add 3 14 1 ↑i (vi (↑(i+1)))] ⟨N8 J J J,rfl,F8 (UV J),hx,h,O1 _,aO hn,N8 J J J,Z⟩
theorem b8p{os:aa1}{nm p n:aa0}{i:Nat}{x b:Ob}(hi:i+1 < os.length)(hl:os.length≤1000)(hx:E5 os (i:Int) 7 (D9 x))(h:l7 63 [x9 x] (.o7 [.dt (.row [D9 (Tr.sym p n).ob,D9 b]),o6 true]))(hn:(decide (p=x8) && decide (n=nm))=true):D7 EX FU (tq os nm i) .ret (UC b) :=
 tW [.av (inA ((i+1:Nat):Int)),.av (inA os.length),yT,.av (.pin ((D9 x).map .dt)),.av (.o7 [.dt (.row [D9 (Tr.sym p n).ob,D9 b]),o6 true]),.no,.no,.no,.av (y7 x8 nm),yT] [] [4,5] 1 [Bk .add 3 9 1 ↑i (vi (↑(i+1))),(vi ↑os.length)=(vi ↑os.length),Bt .lss 3 10 12 (↑(i+1)) ↑os.length bT,_,_,l7 29 [(stA nm)] (y7 x8 nm),Bn .eql 28 (.tmp 34) (.tmp 36) (Value.agg #[str (Tr.sym p n).ob.sp,str (Tr.sym p n).ob.sn]) (Value.agg #[str x8,str nm]) bT] ⟨N8 J J J,rfl,F8 (UV J),hx,h,O1 _,aO hn,Z⟩
theorem a2L{os:aa1}{nm:aa0}{i:Nat}(hi:¬i+1 < os.length)(hl:i≤1000):D7 EX FU (tq os nm i) (.out 0) (tq os nm i) :=
 tW [.av (inA ((i+1:Nat):Int)),.av (inA os.length),yF] [] [0,1,4,6] 1 [Bk .add 3 9 1 ↑i (vi (↑(i+1))),(vi ↑os.length)=(vi ↑os.length),Bt .lss 3 10 12 (↑(i+1)) ↑os.length bF] ⟨N8 J J J,rfl,F8 (WF J),Z⟩
theorem Zc{os:List Tr}{nm:aa0}(hl:os.length≤1000):∀(s:List Tr) (i:Nat),os.drop i=s→i≤os.length→∀res,y8.option nm s=some res→(∀b:Tr,res=some b→Lps EX FU (tq (G7 os) nm i) .ret (UC b.ob))∧(res=none→∃j:Nat,Lps EX FU (tq (G7 os) nm i) (.out 0) (tq (G7 os) nm j)):=by
 have hlo:(G7 os).length=os.length:=by unfold G7;rw[EQ]
 intro s
 induction s with
 |nil =>
  intro i hd hi res h;cases h;have e1:=congrArg List.length hd;rw[Za7,List.length_nil]at e1;exact⟨(fun b e=>by cases e),fun _=>⟨i,.stop (a2L J J) (fun h=>by cases h)⟩⟩
 |cons x s ih =>
  intro i hd hi res h;have e1:=congrArg List.length hd;rw[Za7,Za1]at e1;cases s with
  |nil =>
   cases h;rw[List.length_nil]at e1;exact⟨(fun b e=>by cases e),fun _=>⟨i,.stop (a2L J J) (fun h=>by cases h)⟩⟩
  |cons y r =>
   rw[Za1]at e1;have hx:os[i]?=some x:=by rw[←Zak,hd];rfl
   have hix:E5 (G7 os) (i:Int) 7 (D9 x.ob):=⟨Int.natCast_nonneg _,by rw[Int.toNat_natCast];unfold G7;rw[Zag,hx];rfl,rfl⟩;rw[y8.option]at h;split at h
   case h_2=>cases h
   rename_i p n b hit;have hxe:=wH hit;have hI:=zo (l:=[Tr.sym p n,b]) (by show 2≤10000;decide);rw[←hxe]at hI;split at h
   ·rename_i c;cases h;refine⟨fun b' e=>?_,fun e=>by cases e⟩;cases e;exact .stop (b8p J J hix hI (by simp[c.1,c.2])) (fun h=>by cases h)
   ·rename_i c;obtain⟨k1,k2⟩:=ih (i+1) (by rw[←Zaj,hd];rfl) J res h;have hs:=b8o (nm:=nm) (b:=b.ob) J J hix hI (by
     by_cases a1:p=x8
     ·have:n≠nm:=fun a2=>c ⟨a1,a2⟩
      simp[this]
     ·simp[a1])
    exact⟨fun b' e=>.more hs (k1 b' e),fun e=>by
     obtain⟨j,k3⟩:=k2 e;exact⟨j,.more hs k3⟩⟩
theorem NM{os:List Tr}{nm:aa0}{b:Tr}(hl:os.length≤1000)(h3:3≤os.length)(h:y8.option nm (os.drop 3)=some (some b)):l7 66 [rowA os,stA nm] (.o7 [o9 b,o6 true]):=by
 have ht:=((Zc hl _ 3 rfl h3 _ h).1 b rfl).tri;generalize G7 os=rs at *;exact pW [] [.inv [0,1,4,6] 1 (.ret) (UC b.ob)] [_] func66 ⟨ht,Z⟩
theorem NP{os:List Tr}{nm:aa0}(hl:os.length≤1000)(h3:3≤os.length)(h:y8.option nm (os.drop 3)=some none):l7 66 [rowA os,stA nm] (.o7 [x9 V9,o6 false]):=by
 obtain⟨j,hj⟩:=(Zc hl _ 3 rfl h3 _ h).2 rfl;have ht:=hj.tri;generalize G7 os=rs at *;exact pW [] [.inv [0,1,4,6] 1 (.out 0) (tq rs nm j)] [_] func66 ⟨ht,Z⟩
end Go.Proofs.YthhknjlmjefklaaGreatDoor
