/- Entries of worlds as rows: Macro, place, Function and Arity of the reference, the translator's arity and spend. -/
import Derived.Test.YtdkehabacmlegaaGreatDoorVO
import Derived.Test.YtdkehabacmlegaaGreatDoorVN
namespace Go.Proofs.YtdkehabacmlegaaGreatDoor
open Go.Proofs.Tryz
open Go.RowKit
abbrev G5(n:bi):List Dt:=[.val (str o6),.val (str n)]
abbrev F6(f:o8.E8):List Dt:=[.val (str o6),.val (str f.nm),.row (f.ps.map G5),.val (.int .i64 1),.val (.int .i64 f.guard.kind),.val (str f.guard.np),.val (str f.guard.nn),.val (.int .i64 f.guard.val.kind),.val (str f.guard.val.num),.val (str f.guard.val.den),.val (str f.guard.val.sp),.val (str f.guard.val.sn),.val (str f.guard.val.text),.row (f.guard.val.pair.map Ob.enc),.row (f.guard.args.map Te.enc),.val (.int .i64 f.body.kind),.val (str f.body.np),.val (str f.body.nn),.val (.int .i64 f.body.val.kind),.val (str f.body.val.num),.val (str f.body.val.den),.val (str f.body.val.sp),.val (str f.body.val.sn),.val (str f.body.val.text),.row (f.body.val.pair.map Ob.enc),.row (f.body.args.map Te.enc),.val (.int .i64 f.measure.kind),.val (str f.measure.np),.val (str f.measure.nn),.val (.int .i64 f.measure.val.kind),.val (str f.measure.val.num),.val (str f.measure.val.den),.val (str f.measure.val.sp),.val (str f.measure.val.sn),.val (str f.measure.val.text),.row (f.measure.val.pair.map Ob.enc),.row (f.measure.args.map Te.enc)]
abbrev F3(f:o8.E8):List Dt:=[.val (.int .i64 3),.val (str o6),.val (str f.nm),.val (str []),.row [],.val (str []),.val (str []),.row [],.val (.bool false),.val (.int .i64 0),.val (str []),.val (str []),.val (.int .i64 0),.val (str []),.val (str []),.val (str []),.val (str []),.val (str []),.row [],.row [],.row [F6 f],.row [],.row [],.row [],.val (str []),.val (str []),.row [],.row [],.row [],.row [],.val (str []),.val (.int .u64 0)]
abbrev aM(is:bv):List Dt:=[.val (.int .i64 1),.val (str o6),.val (str [117,115,101,114,45,112,97,99,107,97,103,101]),.val (str [117,115,101,114]),.row is,.val (str []),.val (str []),.row [],.val (.bool false),.val (.int .i64 0),.val (str []),.val (str []),.val (.int .i64 0),.val (str []),.val (str []),.val (str []),.val (str []),.val (str []),.row [],.row [],.row [],.row [],.row [],.row [],.val (str []),.val (str []),.row [],.row [],.row [],.row [],.val (str []),.val (.int .u64 0)]
theorem lZ{ws:List o8.E8}{r:bv}{i:Nat}{f:o8.E8}(h:ws[i]?=some f):z8 (ws.map F3++r) (i:Int) 32 (F3 f):=⟨Int.natCast_nonneg _,by
 have hl:=(List.getElem?_eq_some_iff.1 h).1;rw[Int.toNat_natCast,List.getElem?_append_left (by rw[List.length_map];exact hl),List.getElem?_map,h];rfl,rfl⟩
theorem Jt(l:List (bi)):Value.int .i64 (l.length:Int)=Value.int .i64 ((l.map G5).length:Int):=by rw[List.length_map]
theorem Ry{n:bi}(hn:∀x∈I5,n≠x.1):j5 95 [o9 o6 n] (.l7 [j3 0,j6 false]):=pV ([.no,.av (.dt (.row (I5.map aC))),.no,.no,.no,yF]++nK 4 (yF::nK 4 (yF::nK 4 (yF::nK 4 (yF::nK 4 (yF::nK 4 (yF::nK 4 (yF::nK 4 (yF::nK 4 (yF::nK 4 (yF::nK 4 (yF::nK 4 (yF::nK 4 (yF::nK 4 (yF::nK 4 (yF::nK 4 (yF::nK 4 (yF::nK 4 (yF::nK 4 (yF::nK 4 (yF::nK 4 (yF::nK 4 (yF::nK 4 (yF::nK 4 [yF,.no])))))))))))))))))))))))) [_,Bs .eql 9 20 22 (([105,102],3).fst) n bF,Bs .eql 9 20 22 (([101,113,117,97,108],2).fst) n bF,Bs .eql 9 20 22 (([99,111,110,115],2).fst) n bF,Bs .eql 9 20 22 (([99,97,114],1).fst) n bF,Bs .eql 9 20 22 (([99,100,114],1).fst) n bF,Bs .eql 9 20 22 (([99,111,110,115,112],1).fst) n bF,Bs .eql 9 20 22 (([115,121,109,98,111,108,112],1).fst) n bF,Bs .eql 9 20 22 (([115,116,114,105,110,103,112],1).fst) n bF,Bs .eql 9 20 22 (([114,97,116,105,111,110,97,108,112],1).fst) n bF,Bs .eql 9 20 22 (([105,110,116,101,103,101,114,112],1).fst) n bF,Bs .eql 9 20 22 (([98,105,110,97,114,121,45,43],2).fst) n bF,Bs .eql 9 20 22 (([98,105,110,97,114,121,45,42],2).fst) n bF,Bs .eql 9 20 22 (([117,110,97,114,121,45,45],1).fst) n bF,Bs .eql 9 20 22 (([117,110,97,114,121,45,47],1).fst) n bF,Bs .eql 9 20 22 (([60],2).fst) n bF,Bs .eql 9 20 22 (([110,117,109,101,114,97,116,111,114],1).fst) n bF,Bs .eql 9 20 22 (([100,101,110,111,109,105,110,97,116,111,114],1).fst) n bF,Bs .eql 9 20 22 (([102,108,111,111,114],1).fst) n bF,Bs .eql 9 20 22 (([115,121,109,98,111,108,45,110,97,109,101],1).fst) n bF,Bs .eql 9 20 22 (([115,121,109,98,111,108,45,112,97,99,107,97,103,101,45,110,97,109,101],1).fst) n bF,Bs .eql 9 20 22 (([105,110,116,101,114,110],2).fst) n bF,Bs .eql 9 20 22 (([115,116,114,105,110,103,45,97,112,112,101,110,100],2).fst) n bF,Bs .eql 9 20 22 (([115,116,114,105,110,103,45,108,101,110,103,116,104],1).fst) n bF,Bs .eql 9 20 22 (([115,116,114,105,110,103,45,98,121,116,101],2).fst) n bF,Bs .eql 9 20 22 (([98,121,116,101,45,115,116,114,105,110,103],1).fst) n bF] func95 ⟨aG,H5 (decide_eq_false (Ne.symm (hn ([105,102],3) O))),H5 (decide_eq_false (Ne.symm (hn ([101,113,117,97,108],2) O))),H5 (decide_eq_false (Ne.symm (hn ([99,111,110,115],2) O))),H5 (decide_eq_false (Ne.symm (hn ([99,97,114],1) O))),H5 (decide_eq_false (Ne.symm (hn ([99,100,114],1) O))),H5 (decide_eq_false (Ne.symm (hn ([99,111,110,115,112],1) O))),H5 (decide_eq_false (Ne.symm (hn ([115,121,109,98,111,108,112],1) O))),H5 (decide_eq_false (Ne.symm (hn ([115,116,114,105,110,103,112],1) O))),H5 (decide_eq_false (Ne.symm (hn ([114,97,116,105,111,110,97,108,112],1) O))),H5 (decide_eq_false (Ne.symm (hn ([105,110,116,101,103,101,114,112],1) O))),H5 (decide_eq_false (Ne.symm (hn ([98,105,110,97,114,121,45,43],2) O))),H5 (decide_eq_false (Ne.symm (hn ([98,105,110,97,114,121,45,42],2) O))),H5 (decide_eq_false (Ne.symm (hn ([117,110,97,114,121,45,45],1) O))),H5 (decide_eq_false (Ne.symm (hn ([117,110,97,114,121,45,47],1) O))),H5 (decide_eq_false (Ne.symm (hn ([60],2) O))),H5 (decide_eq_false (Ne.symm (hn ([110,117,109,101,114,97,116,111,114],1) O))),H5 (decide_eq_false (Ne.symm (hn ([100,101,110,111,109,105,110,97,116,111,114],1) O))),H5 (decide_eq_false (Ne.symm (hn ([102,108,111,111,114],1) O))),H5 (decide_eq_false (Ne.symm (hn ([115,121,109,98,111,108,45,110,97,109,101],1) O))),H5 (decide_eq_false (Ne.symm (hn ([115,121,109,98,111,108,45,112,97,99,107,97,103,101,45,110,97,109,101],1) O))),H5 (decide_eq_false (Ne.symm (hn ([105,110,116,101,114,110],2) O))),H5 (decide_eq_false (Ne.symm (hn ([115,116,114,105,110,103,45,97,112,112,101,110,100],2) O))),H5 (decide_eq_false (Ne.symm (hn ([115,116,114,105,110,103,45,108,101,110,103,116,104],1) O))),H5 (decide_eq_false (Ne.symm (hn ([115,116,114,105,110,103,45,98,121,116,101],2) O))),H5 (decide_eq_false (Ne.symm (hn ([98,121,116,101,45,115,116,114,105,110,103],1) O))),Z⟩
theorem Hy(f:o8.E8):j5 124 [.agg ((F3 f).map .dt)] (.dt (.row [F6 f])) :=
 pV [.no] [] func124 trivial
theorem a3M(is:bv):j5 124 [.agg ((aM is).map .dt)] (.dt (.row [])) :=
 pV (nK 4 []) [] func124 trivial
abbrev iq(es:bv)(n:bi)(i:Int):AS:=⟨stt 36 [(0,.dt (.row es)),(3,.ptr 0 0),(7,j3 i)],[some (.cells [stA o6,stA n])]⟩
abbrev KO(n:bi)(i:Int):AS:=⟨stt 36 [(4,j3 i),(5,j3 0),(6,j6 true)],[some (.cells [stA o6,stA n])]⟩
noncomputable abbrev rE:Code:=M9 (P6 f123) [1,0,1,0,0]
theorem UM{es:bv}{n:bi}{i:Nat}{f:o8.E8}(h:z8 es (i:Int) 32 (F3 f))(hi:i < es.length)(hl:es.length≤1000)(hn:(decide (f.nm=n))=false):y7 EX rE (iq es n i) .F4 (iq es n ((i+1:Nat):Int)) :=
 tW [.av (j3 es.length),yT,.av (.pin ((F3 f).map .dt)),.av (.dt (.row [F6 f])),.no,.no,.no,yF,.no,.no,.no,.av (j3 ((i+1:Nat):Int))] [.run 2] [0,3,7] 1 [(vi ↑es.length)=(vi ↑es.length),Bt .lss 3 10 12 ↑i ↑es.length bT,z8 es ↑i 32 (F3 f),j5 124 [(.agg ((F3 f).map .dt))] (.dt (.row [F6 f])),Bn .eql 45 (.tmp 31) (.tmp 32) (Value.agg #[str o6,str f.nm]) (Value.agg #[str o6,str n]) bF,Bk .add 3 14 1 ↑i (vi (↑(i+1)))]     ⟨rfl,C9 (decide_eq_true J),h,Hy f,ah (by rw[hn];rfl),I4 J J J,Z⟩
theorem b1j{es:bv}{n:bi}{i:Nat}{f:o8.E8}(h:z8 es (i:Int) 32 (F3 f))(hi:i < es.length)(hn:f.nm=n):y7 EX rE (iq es n i) .ret (KO n i) :=
 tW [.av (j3 es.length),yT,.av (.pin ((F3 f).map .dt)),.av (.dt (.row [F6 f])),.no,.no,.no,yT] [.run 2] [4,5,6] 1 [(vi ↑es.length)=(vi ↑es.length),Bt .lss 3 10 12 ↑i ↑es.length bT,z8 es ↑i 32 (F3 f),j5 124 [(.agg ((F3 f).map .dt))] (.dt (.row [F6 f])),Bn .eql 45 (.tmp 31) (.tmp 32) (Value.agg #[str o6,str f.nm]) (Value.agg #[str o6,str n]) bT]     ⟨rfl,C9 (decide_eq_true J),h,Hy f,ah (by rw[decide_eq_true hn];rfl),Z⟩
theorem a3N{ws:List o8.E8}{r:bv}{n:bi}{f:o8.E8}(hl:(ws.map F3++r).length≤1000):∀(s:List o8.E8) (i:Nat),ws.drop i=s→(s.find? fun f=>f.nm == n)=some f→∃j:Nat,ws[j]?=some f∧J7 EX rE (iq (ws.map F3++r) n i) .ret (KO n j):=by
 intro s
 induction s with
 |nil=>intro i _ h;cases h
 |cons x s ih =>
  intro i hd h;have hx:ws[i]?=some x:=by rw[←List.head?_drop,hd];rfl
  have hlt:=(List.getElem?_eq_some_iff.1 hx).1;have hi:i < (ws.map F3++r).length:=by rw[List.length_append,List.length_map];omega
  rw[List.find?_cons]at h;split at h
  ·rename_i e;cases h;exact⟨i,hx,.stop (b1j (lZ hx) hi (by simpa using e)) (fun h=>by cases h)⟩
  ·rename_i e;obtain⟨j,k1,k2⟩:=ih (i+1) (by rw[←List.drop_drop,hd];rfl) h;exact⟨j,k1,.more (UM (lZ hx) hi hl (decide_eq_false (by simpa using e))) k2⟩
theorem a6O{es:bv}{n:bi}{j:Nat}{f:o8.E8}(ht:j5 123 [.dt (.row es),o9 o6 n] (.l7 [j3 j,j3 0,j6 true]))(h:z8 es (j:Int) 32 (F3 f)):j5 96 [.dt (.row es),o9 o6 n] (.l7 [.agg ((F6 f).map .dt),j6 true]) :=
 pV [.av (.l7 [j3 j,j3 0,j6 true]),.av (.pin ((F3 f).map .dt)),.av (.dt (.row [F6 f])),.no] [_,_,j5 124 [(.agg ((F3 f).map .dt))] (.dt (.row [F6 f]))] func96 ⟨ht,h,Hy f,Z⟩
theorem Rz{ws:List o8.E8}{r:bv}{n:bi}{f:o8.E8}(hl:(ws.map F3++r).length≤1000)(hf:(ws.find? fun f=>f.nm == n)=some f):j5 96 [.dt (.row (ws.map F3++r)),o9 o6 n] (.l7 [.agg ((F6 f).map .dt),j6 true]):=by
 obtain⟨j,hj,h⟩:=a3N (r:=r) hl ws 0 rfl hf;have ht:=h.K3;refine a6O (j:=j) ?_ (lZ hj);generalize ws.map F3++r=es at *;exact pW [] [.inv [0,3,7] 1 (.ret) (KO n j)] [_] func123 ⟨ht,Z⟩
theorem a8P{es:bv}{n:bi}{f:o8.E8}(h1:j5 95 [o9 o6 n] (.l7 [j3 0,j6 false]))(h2:j5 96 [.dt (.row es),o9 o6 n] (.l7 [.agg ((F6 f).map .dt),j6 true])):j5 94 [.dt (.row es),o9 o6 n] (.l7 [j3 f.ps.length,j6 true]) :=
 pV [.av (.l7 [j3 0,j6 false]),.av (.l7 [.agg ((F6 f).map .dt),j6 true]),.av (j3 f.ps.length)] [_,_,(vi ↑f.ps.length)=(vi (↑(List.map G5 f.ps).length))] func94 ⟨h1,h2,Jt _,Z⟩
theorem a6P{es:bv}{n:bi}{k:Nat}(h1:j5 95 [o9 o6 n] (.l7 [j3 k,j6 true])):j5 94 [.dt (.row es),o9 o6 n] (.l7 [j3 k,j6 true]) :=
 pV [.av (.l7 [j3 k,j6 true])] [_] func94 ⟨h1,Z⟩
def eY(ws:List o8.E8)(n:bi):Option Nat:=match o8.uL I5 n with
 |some k=>some k
 |none=>(ws.find? fun f=>f.nm == n).map (·.ps.length)
theorem Hz{ws:List o8.E8}{r:bv}{n:bi}{k:Nat}(hl:(ws.map F3++r).length≤1000)(h:eY ws n=some k):j5 94 [.dt (.row (ws.map F3++r)),o9 o6 n] (.l7 [j3 (k:Int),j6 true]):=by
 unfold eY o8.uL at h;split at h
 ·rename_i k' hp;cases h;rw[Option.map_eq_some_iff]at hp;obtain⟨x,hx,rfl⟩:=hp;have e:=List.find?_some hx;have hm:=List.mem_of_find?_eq_some hx;obtain⟨i,hi⟩:=List.mem_iff_getElem?.1 hm;obtain⟨s,a⟩:=x;have e:s=n:=by simpa using e
  subst e;exact a6P (Rw hi)
 ·rename_i hp;rw[Option.map_eq_some_iff]at h;obtain⟨f,hf,rfl⟩:=h;rw[Option.map_eq_none_iff,List.find?_eq_none]at hp;exact a8P (Ry fun x hx e=>hp x hx (by simp[e])) (Rz hl hf)
abbrev yx:AV:=.agg [stA [],stA [],.nil,j6 false,j3 0,stA [],stA [],j3 0,stA [],stA [],stA [],stA [],stA [],.nil,.nil]
theorem aK.pure{P:Program}{G:World→Prop}{f:FuncId}{args:List AV}{r:AV}(hG:∀w w',G w→Below w.heap.size w w'→G w')(h:aK P G f args [] r [])(hr:r.dW=true):qj P G f args r :=
 ⟨h.1,fun ok w vs hw ha=>by
  refine (h.2 (fun _=>False) (M0 fun b=>ok b∧b < w.heap.size) w vs (fun w' hb=>hG w w' hw hb.below) ?_ (RL.sO (fun b hb hl=>⟨hb,hl⟩) ha)).mono ?_
  ·have jD:∀b x,lk [] b≠some x:=fun b x h=>by simp[lk]at h
   exact⟨fun b x h=>absurd h (jD b x),fun b x _ h=>absurd h (jD b x),fun b _ x _ _ h=>absurd h (jD b x),(fun b g h=>by cases h),(fun b v h=>by cases h),fun b hb=>hb.2⟩
  ·rintro e w' ⟨v,M',h1,h2,_,_,h5⟩;exact⟨v,h1,h2.below.below,RV.dW _ _ hr h5⟩⟩
abbrev mcX(p n:bi):List (Option Bx):=[some (.cells [stA p,stA n]),some (.cells [stA [],stA [],.nil,j6 false,j3 0,stA [],stA [],j3 0,stA [],stA [],stA [],stA [],stA [],.nil,.nil])]
abbrev rF(es:bv)(p n:bi)(i:Int):AS:=⟨stt 35 [(0,.dt (.row es)),(3,.ptr 0 0),(4,.ptr 1 0),(6,j3 i)],mcX p n⟩
noncomputable abbrev KP:Code:=M9 (P6 f138) [1,0,1,0,0]
theorem b1k{es:bv}{p n:bi}{i:Nat}{f:o8.E8}(h:z8 es (i:Int) 32 (F3 f))(hi:i < es.length)(hl:es.length≤1000):y7 EX KP (rF es p n i) .F4 (rF es p n ((i+1:Nat):Int)) :=
 tW [.av (j3 es.length),yT,.av (.pin ((F3 f).map .dt)),.no,.av (j3 ((i+1:Nat):Int))] [] [0,3,4,6] 2 [(vi ↑es.length)=(vi ↑es.length),Bt .lss 3 7 9 ↑i ↑es.length bT,z8 es ↑i 32 (F3 f),Bk .add 3 11 1 ↑i (vi (↑(i+1)))]     ⟨rfl,C9 (decide_eq_true J),h,I4 J J J,Z⟩
theorem b1l{es:bv}{p n:bi}{i:Nat}(hi:i=es.length):y7 EX KP (rF es p n i) (.out 0) (rF es p n i) :=
 tW [.av (j3 es.length),yF] [] [0,3,4,6] 2 [(vi ↑es.length)=(vi ↑es.length),Bt .lss 3 7 9 ↑i ↑es.length bF]     ⟨rfl,C9 (decide_eq_false J),Z⟩
theorem a3O{ws:List o8.E8}{p n:bi}(hl:(ws.map F3).length≤1000):∀(s:List o8.E8) (i:Nat),ws.drop i=s→i≤ws.length→J7 EX KP (rF (ws.map F3) p n i) (.out 0) (rF (ws.map F3) p n ws.length):=by
 intro s
 induction s with
 |nil =>
  intro i hd hi;have e1:=congrArg List.length hd;rw[List.length_drop,List.length_nil]at e1;obtain rfl:i=ws.length:=J;exact .stop (b1l (by rw[List.length_map])) (fun h=>by cases h)
 |cons x s ih =>
  intro i hd hi;have hx:ws[i]?=some x:=by rw[←List.head?_drop,hd];rfl
  have hlt:=(List.getElem?_eq_some_iff.1 hx).1;have h:=lZ (r:=[]) hx;rw[List.append_nil]at h;exact .more (b1k h (by rw[List.length_map];exact hlt) hl) (ih (i+1) (by rw[←List.drop_drop,hd];rfl) J)
theorem Qg{ws:List o8.E8}{p n:bi}(hl:(ws.map F3).length≤1000):j5 138 [.dt (.row (ws.map F3)),o9 p n] (.l7 [yx,j6 false]):=by
 refine aK.pure (fun w w' h hb=>h.below hb) ?_ rfl;have ht:=(a3O (p:=p) (n:=n) hl ws 0 rfl (Nat.zero_le _)).K3;generalize ws.map F3=es at *;generalize ((ws.length:Nat):Int)=k at *;exact sW 0 [] [] [.inv [0,3,4,6] 2 (.out 0) (rF es p n k)] [_] func138 ⟨ht,Z⟩
abbrev bf(es ex:bv)(m:Int):List (Option Bx):=[some (.cells [.own 1 es.length,.dt (.row ex),j3 m]),some (.buf 87 32 es)]
theorem a3P{es ex:bv}{m:Int}(h0:1≤m)(h1:m≤500):C8 137 [.ptr 0 0] (bf es ex m) (j6 true) (bf es ex (m - 1)) :=
 sW 2 [0,1] [.av (j3 (m - 1)),yT] [] [Bk .sub 3 6 1 m (vi (m - 1)),Bk .geq 3 13 0 (m - 1) bT] func137 ⟨bE rfl J J,R7 (decide_eq_true J),Z⟩
theorem a6Q{es:bv}{n:bi}{m:Int}{f:o8.E8}(h:f.nm=n):j5 141 [.pin [.dt (.row es),.dt (.row [F6 f]),j3 m],o9 o6 n] (.l7 [j3 f.ps.length,j6 true]) :=
 pW [.no,.no,.no,yT,.no,.av (j3 f.ps.length)] [.run 1] [Bn .eql 45 (.tmp 23) (.tmp 24) (Value.agg #[str o6,str f.nm]) (Value.agg #[str o6,str n]) bT,(vi ↑f.ps.length)=(vi (↑(List.map G5 f.ps).length))] func141 ⟨ah (by rw[decide_eq_true h];rfl),Jt _,Z⟩
theorem a6R{es:bv}{n:bi}{m k:Int}{f:o8.E8}(h:f.nm≠n)(ha:j5 94 [.dt (.row es),o9 o6 n] (.l7 [j3 k,j6 true])):j5 141 [.pin [.dt (.row es),.dt (.row [F6 f]),j3 m],o9 o6 n] (.l7 [j3 k,j6 true]) :=
 pW [.no,.no,.no,yF,.no,.no,.no,.av (.l7 [j3 k,j6 true])] [.run 2] [Bn .eql 45 (.tmp 23) (.tmp 24) (Value.agg #[str o6,str f.nm]) (Value.agg #[str o6,str n]) bF,_] func141 ⟨ah (by rw[decide_eq_false h];rfl),ha,Z⟩
theorem a3Q{ws:List o8.E8}{n:bi}{m:Int}{f:o8.E8}{k:Nat}(hl:(ws.map F3).length≤1000)(h:o8.arity I5 ws f.nm f.ps n=some k):j5 141 [.pin [.dt (.row (ws.map F3)),.dt (.row [F6 f]),j3 m],o9 o6 n] (.l7 [j3 (k:Int),j6 true]):=by
 unfold o8.arity at h;split at h
 ·rename_i e;cases h;exact a6Q e
 ·rename_i e;have ha:=Hz (ws:=ws) (r:=[]) (n:=n) (k:=k) (by rw[List.append_nil];exact hl) h;rw[List.append_nil]at ha;exact a6R e ha
end Go.Proofs.YtdkehabacmlegaaGreatDoor
namespace Go.Proofs.YtdkehabacmlegaaGreatDoor
open Go.Proofs.Tryz
open Go.RowKit
open Te
abbrev wB(es:bv):Option Bx:=some (.buf 87 32 es)
theorem a1x{es os rs:bv}{n:bi}{form o:Ob}(h1:j5 69 [l9 form] (.l7 [.dt (.row os),j6 true]))(n0:os.length≠0)(h0:z8 os 0 7 (y8 (K8 n)))(hs:bW os 7 1 (os.length:Int) rs)(hb:j5 139 [o9 o6 n] (j6 true))(he:j5 dX [stA n,.dt (.row rs)] (.l7 [l9 o,j6 true])):C8 140 [.own 0 es.length,l9 form] [wB es] (.l7 [l9 o,j6 true,j3 0]) [wB es] :=
 sW 1 [0] [.av (.l7 [.dt (.row os),j6 true]),.av (j3 os.length),yF,.av (.pin ((y8 (K8 n)).map .dt)),.no,.av (.pin ((y8 (K8 n)).map .dt)),.av (.dt (.row rs)),yT,.av (.l7 [l9 o,j6 true])] [] [_,(vi ↑os.length)=(vi ↑os.length),Bk .eql 3 28 0 ↑os.length bF,_,_,_,(none:Option Int)=none∨(none:Option Int)=none,_,_] func140 ⟨h1,rfl,A9 (decide_eq_false J),h0,h0,hs,.inl rfl,hb,he,Z⟩
theorem a6S(p n:bi):j5 28 [o9 p n] (o7 ⟨1,p,n,U0,[]⟩):=pV [] [] func28 trivial
theorem Yt(p n:bi):j5 120 [.dt (.row []),o9 p n] (.l7 [o7 E5,j6 false]):=pW [.no,.no] [.run 1] [] func120 trivial
abbrev mO:FuncId:=114
theorem a8Q{es ex:bv}{m:Int}{o:Ob}{t:Te}(hk:o.kind=1)(hc:j5 53 [l9 o] (o7 t)):C8 mO [.ptr 0 0,l9 o,.dt (.row [])] (bf es ex m) (.l7 [o7 t,j3 0]) (bf es ex m) :=
 sW 2 [0,1] [yT,.av (o7 t)] [] [Bk .eql 3 29 1 o.kind bT,_] func114 ⟨A9 (U4 hk),hc,Z⟩
theorem a8R{es ex:bv}{m:Int}{o:Ob}{t:Te}(hk:o.kind=2)(hv:j5 134 [o9 o.sp o.sn] (j6 false))(hc:j5 53 [l9 o] (o7 t)):C8 mO [.ptr 0 0,l9 o,.dt (.row [])] (bf es ex m) (.l7 [o7 t,j3 0]) (bf es ex m) :=
 sW 2 [0,1] [yF,yF,yT,yF,.av (o7 t)] [] [Bk .eql 3 29 1 o.kind bF,Bk .eql 3 29 3 o.kind bF,Bk .eql 3 29 2 o.kind bT,_,_] func114 ⟨A9 (K9 J),A9 (K9 J),A9 (U4 hk),hv,hc,Z⟩
theorem a8S{es ex:bv}{m:Int}{o:Ob}{t:Te}(hk:o.kind=2)(hv:j5 134 [o9 o.sp o.sn] (j6 true))(ha:j5 120 [.dt (.row []),o9 o.sp o.sn] (.l7 [o7 E5,j6 false]))(hc:j5 28 [o9 o.sp o.sn] (o7 t)):C8 mO [.ptr 0 0,l9 o,.dt (.row [])] (bf es ex m) (.l7 [o7 t,j3 0]) (bf es ex m) :=
 sW 2 [0,1] [yF,yF,yT,yT,.av (.l7 [o7 E5,j6 false]),.av (o7 t)] [] [Bk .eql 3 29 1 o.kind bF,Bk .eql 3 29 3 o.kind bF,Bk .eql 3 29 2 o.kind bT,_,_,_] func114 ⟨A9 (K9 J),A9 (K9 J),A9 (U4 hk),hv,ha,hc,Z⟩
theorem a8T{es ex os rs:bv}{m m':Int}{n:bi}{form o:Ob}{t:Te}(hk:form.kind=4)(h1:j5 69 [l9 form] (.l7 [.dt (.row os),j6 true]))(n0:os.length≠0)(h0:z8 os 0 7 (y8 (K8 n)))(hs:bW os 7 1 (os.length:Int) rs)
  (hq:n ∉ o8.wJ) (hm:j5 138 [.dt (.row es),o9 o6 n] (.l7 [yx,j6 false])) (hb:j5 139 [o9 o6 n] (j6 true)) (hsp:C8 137 [.ptr 0 0] (bf es ex m) (j6 true) (bf es ex (m - 1))) (he:C8 140 [.own 0 es.length,l9 form] [wB es] (.l7 [l9 o,j6 true,j3 0]) [wB es]) (ht:C8 mO [.ptr 0 0,l9 o,.dt (.row [])] (bf es ex (m - 1)) (.l7 [o7 t,j3 0]) (bf es ex m')):C8 mO [.ptr 0 0,l9 form,.dt (.row [])] (bf es ex m) (.l7 [o7 t,j3 0]) (bf es ex m'):=by
 have ne:∀x∈o8.wJ,(decide (o6=o6) && decide (n=x))=false:=fun x hx=>by
  rw[decide_eq_false (fun e:n=x=>hq (e.symm ▸ hx)),Bool.and_false]
 exact sW 2 [0,1] [yF,yF,yF,.av (.l7 [.dt (.row os),j6 true]),.av (j3 os.length),yF,.av (.pin ((y8 (K8 n)).map .dt)),.no,.av (.pin ((y8 (K8 n)).map .dt)),.av (.dt (.row rs)),.av (o9 o6 [113,117,111,116,101]),yF,.av (o9 o6 [108,101,116]),yF,.av (o9 o6 [108,101,116,42]),yF,.av (.l7 [yx,j6 false]),yT,.no] [.J6 33 1 [0,1] (j6 true) [some (.cells [.own 1 es.length,.dt (.row ex),j3 (m - 1)]),some (.buf 87 32 es)],.J6 35 5 [1] (.l7 [l9 o,j6 true,j3 0]) [some (.buf 87 32 es)],.J6 38 3 [0,1] (.l7 [o7 t,j3 0]) [some (.cells [.own 1 es.length,.dt (.row ex),j3 m']),some (.buf 87 32 es)]] [Bk .eql 3 29 1 form.kind bF,Bk .eql 3 29 3 form.kind bF,Bk .eql 3 29 2 form.kind bF,j5 69 [(l9 form)] (.l7 [(.dt (.row os)),(j6 true)]),(vi ↑os.length)=(vi ↑os.length),Bk .eql 3 64 0 ↑os.length bF,z8 os 0 7 (y8 (K8 n)),z8 os 0 7 (y8 (K8 n)),bW os 7 ((some 1).getD 0) (none.getD ↑os.length) rs,(none:Option Int)=none∨(none:Option Int)=none,j5 36 [(stA [113,117,111,116,101])] (o9 o6 [113,117,111,116,101]),Bn .eql 45 (.tmp 81) (.tmp 83) (Value.agg #[str (K8 n).sp,str (K8 n).sn]) (Value.agg #[str o6,str [113,117,111,116,101]]) bF,j5 36 [(stA [108,101,116])] (o9 o6 [108,101,116]),Bn .eql 45 (.tmp 81) (.tmp 94) (Value.agg #[str (K8 n).sp,str (K8 n).sn]) (Value.agg #[str o6,str [108,101,116]]) bF,j5 36 [(stA [108,101,116,42])] (o9 o6 [108,101,116,42]),Bn .eql 45 (.tmp 81) (.tmp 103) (Value.agg #[str (K8 n).sp,str (K8 n).sn]) (Value.agg #[str o6,str [108,101,116,42]]) bF,j5 138 [(.dt (.row es)),(o9 (K8 n).sp (K8 n).sn)] (.l7 [(.agg [(stA []),(stA []),.nil,(j6 false),(j3 0),(stA []),(stA []),(j3 0),(stA []),(stA []),(stA []),(stA []),(stA []),.nil,.nil]),(j6 false)]),(es.length)=(es.length),j5 139 [(o9 (K8 n).sp (K8 n).sn)] (j6 true),C8 137 [AV.ptr 0 0] [some (Bx.cells [AV.own 1 es.length,AV.dt (Dt.row ex),AV.dt (Dt.val (vi m))]),some (Bx.buf 87 32 es)] (j6 true) [some (Bx.cells [AV.own 1 es.length,AV.dt (Dt.row ex),j3 (m - 1)]),some (Bx.buf 87 32 es)],C8 140 [AV.own 0 es.length,AV.agg [AV.dt (Dt.val (vi form.kind)),AV.dt (Dt.val (str form.num)),AV.dt (Dt.val (str form.den)),AV.dt (Dt.val (str form.sp)),AV.dt (Dt.val (str form.sn)),AV.dt (Dt.val (str form.text)),AV.dt (Dt.row (List.map Ob.enc form.pair))]] [some (Bx.buf 87 32 es)] (AV.l7 [l9 o,j6 true,j3 0]) [some (Bx.buf 87 32 es)],C8 114 [AV.ptr 0 0,AV.agg [AV.dt (Dt.val (vi o.kind)),AV.dt (Dt.val (str o.num)),AV.dt (Dt.val (str o.den)),AV.dt (Dt.val (str o.sp)),AV.dt (Dt.val (str o.sn)),AV.dt (Dt.val (str o.text)),AV.dt (Dt.row (List.map Ob.enc o.pair))],AV.dt (Dt.row [])] [some (Bx.cells [AV.own 1 es.length,AV.dt (Dt.row ex),AV.dt (Dt.val (vi (m - 1)))]),some (Bx.buf 87 32 es)] (AV.l7 [o7 t,j3 0]) [some (Bx.cells [AV.own 1 es.length,AV.dt (Dt.row ex),j3 m']),some (Bx.buf 87 32 es)]] func114     ⟨A9 (K9 J),A9 (K9 J),A9 (K9 J),h1,rfl,A9 (decide_eq_false J),h0,h0,hs,.inl rfl,O7 _,ah (ne _ O),O7 _,ah (ne _ O),O7 _,ah (ne _ O),hm,rfl,hb,hsp,he,ht,Z⟩
abbrev WA(form:Ob)(n:bi):List (Option Bx):=[some (.cells ((y8 form).map .dt)),some (.cells [j3 0,stA [],stA [],j3 0,stA [],stA [],stA [],stA [],stA [],.nil,.nil]),some (.cells [stA o6,stA n]),some (.cells [stA [],stA [],.nil,j6 false,j3 0,stA [],stA [],j3 0,stA [],stA [],stA [],stA [],stA [],.nil,.nil])]
abbrev kQ(es ex:bv)(m:Int)(form:Ob)(n:bi)(os ts:bv)(i:Int):AS:=⟨stt 214 [(0,.ptr 0 0),(2,.dt (.row [])),(4,.ptr 2 0),(6,.ptr 3 0),(12,.ptr 4 0),(13,.dt (.row os)),(23,.own 6 ts.length),(24,j3 i)],bf es ex m++(WA form n++[some (.buf 50 11 ts)])⟩
abbrev KQ(es ex:bv)(m:Int)(form:Ob)(n:bi)(os:bv):AS:=⟨stt 214 [(0,.ptr 0 0),(2,.dt (.row [])),(4,.ptr 2 0),(6,.ptr 3 0),(12,.ptr 4 0),(13,.dt (.row os)),(23,.nil),(24,j3 0)],bf es ex m++WA form n⟩
noncomputable abbrev zy:Code:=M9 (P6 f114) [1,1,1,1,1,1,1,1,0,1,0,0]
theorem b1m{es ex os ts:bv}{m m':Int}{form o:Ob}{n:bi}{i:Nat}{t:Te}(hi:i < os.length)(hl:os.length≤1000)(he:ts.length≤1000)(hx:z8 os (i:Int) 7 (y8 o))(ht:C8 mO [.ptr 0 0,l9 o,.dt (.row [])] (bf es ex m) (.l7 [o7 t,j3 0]) (bf es ex m')):y7 (J5 2) zy (kQ es ex m form n os ts i) .F4 (kQ es ex m' form n os (ts++[p9 t]) ((i+1:Nat):Int)) :=
 tW [.av (j3 os.length),yT,.av (.pin ((y8 o).map .dt)),.no,.av (.un),.av (j3 ((i+1:Nat):Int))] [.J6 43 6 [0,1] (.l7 [o7 t,j3 0]) [some (.cells [.own 1 es.length,.dt (.row ex),j3 m']),some (.buf 87 32 es)]] [0,2,4,6,12,13,23,24] 7 [(vi ↑os.length)=(vi ↑os.length),Bt .lss 3 173 175 ↑i ↑os.length bT,z8 os ↑i 7 (y8 o),C8 114 [AV.ptr 0 0,AV.agg [AV.dt (Dt.val (vi o.kind)),AV.dt (Dt.val (str o.num)),AV.dt (Dt.val (str o.den)),AV.dt (Dt.val (str o.sp)),AV.dt (Dt.val (str o.sn)),AV.dt (Dt.val (str o.text)),AV.dt (Dt.row (List.map Ob.enc o.pair))],AV.dt (Dt.row [])] [some (Bx.cells [AV.own 1 es.length,AV.dt (Dt.row ex),AV.dt (Dt.val (vi m))]),some (Bx.buf 87 32 es)] (AV.l7 [o7 t,j3 0]) [some (Bx.cells [AV.own 1 es.length,AV.dt (Dt.row ex),j3 m']),some (Bx.buf 87 32 es)],(ts.length)=(ts.length),P9 176 ((ts++[p9 t]).length),L6 11 [p9 t],Bk .add 3 177 1 ↑i (vi (↑(i+1)))]     ⟨rfl,C9 (decide_eq_true J),hx,ht,rfl,bG J (by simp;omega),sZ t,I4 J J J,Z⟩
theorem b1n{es ex os ts:bv}{m:Int}{form:Ob}{n:bi}{i:Nat}(hi:i=os.length):y7 (J5 2) zy (kQ es ex m form n os ts i) (.out 2) (kQ es ex m form n os ts i) :=
 tW [.av (j3 os.length),yF] [] [0,2,4,6,12,13,23,24] 7 [(vi ↑os.length)=(vi ↑os.length),Bt .lss 3 173 175 ↑i ↑os.length bF]     ⟨rfl,C9 (decide_eq_false J),Z⟩
theorem a8U{es ex os rs ts:bv}{m m' k:Int}{n:bi}{form:Ob}{t:Te}(hk:form.kind=4)(h1:j5 69 [l9 form] (.l7 [.dt (.row os),j6 true]))(n0:os.length≠0)(h0:z8 os 0 7 (y8 (K8 n)))(hs:bW os 7 1 (os.length:Int) rs)
  (hq:n ∉ o8.wJ) (hm:j5 138 [.dt (.row es),o9 o6 n] (.l7 [yx,j6 false])) (hb:j5 139 [o9 o6 n] (j6 false)) (hlp:y7 (J5 2) (.loop zy) (KQ es ex m form n rs) (.out 2) (kQ es ex m' form n rs ts k)) (ha:j5 141 [.pin [.dt (.row es),.dt (.row ex),j3 m'],o9 o6 n] (.l7 [j3 ts.length,j6 true])) (hp:j5 59 [o9 o6 n,.dt (.row ts)] (o7 t)):C8 mO [.ptr 0 0,l9 form,.dt (.row [])] (bf es ex m) (.l7 [o7 t,j3 0]) (bf es ex m'):=by
 have ne:∀x∈o8.wJ,(decide (o6=o6) && decide (n=x))=false:=fun x hx=>by
  rw[decide_eq_false (fun e:n=x=>hq (e.symm ▸ hx)),Bool.and_false]
 exact sW 2 [0,1] [yF,yF,yF,.av (.l7 [.dt (.row os),j6 true]),.av (j3 os.length),yF,.av (.pin ((y8 (K8 n)).map .dt)),.no,.av (.pin ((y8 (K8 n)).map .dt)),.av (.dt (.row rs)),.av (o9 o6 [113,117,111,116,101]),yF,.av (o9 o6 [108,101,116]),yF,.av (o9 o6 [108,101,116,42]),yF,.av (.l7 [yx,j6 false]),yF,.av (.l7 [j3 ts.length,j6 true]),.av (j3 ts.length),yF,.av (o7 t)] [.inv [0,2,4,6,12,13,23,24] 6 (.out 2) (kQ es ex m' form n rs ts k)] [Bk .eql 3 29 1 form.kind bF,Bk .eql 3 29 3 form.kind bF,Bk .eql 3 29 2 form.kind bF,j5 69 [(l9 form)] (.l7 [(.dt (.row os)),(j6 true)]),(vi ↑os.length)=(vi ↑os.length),Bk .eql 3 64 0 ↑os.length bF,z8 os 0 7 (y8 (K8 n)),z8 os 0 7 (y8 (K8 n)),bW os 7 ((some 1).getD 0) (none.getD ↑os.length) rs,(none:Option Int)=none∨(none:Option Int)=none,j5 36 [(stA [113,117,111,116,101])] (o9 o6 [113,117,111,116,101]),Bn .eql 45 (.tmp 81) (.tmp 83) (Value.agg #[str (K8 n).sp,str (K8 n).sn]) (Value.agg #[str o6,str [113,117,111,116,101]]) bF,j5 36 [(stA [108,101,116])] (o9 o6 [108,101,116]),Bn .eql 45 (.tmp 81) (.tmp 94) (Value.agg #[str (K8 n).sp,str (K8 n).sn]) (Value.agg #[str o6,str [108,101,116]]) bF,j5 36 [(stA [108,101,116,42])] (o9 o6 [108,101,116,42]),Bn .eql 45 (.tmp 81) (.tmp 103) (Value.agg #[str (K8 n).sp,str (K8 n).sn]) (Value.agg #[str o6,str [108,101,116,42]]) bF,j5 138 [(.dt (.row es)),(o9 (K8 n).sp (K8 n).sn)] (.l7 [(.agg [(stA []),(stA []),.nil,(j6 false),(j3 0),(stA []),(stA []),(j3 0),(stA []),(stA []),(stA []),(stA []),(stA []),.nil,.nil]),(j6 false)]),(es.length)=(es.length),j5 139 [(o9 (K8 n).sp (K8 n).sn)] (j6 false),y7 (J5 2) (.loop (M9 (P6 f114) [1,1,1,1,1,1,1,1,0,1,0,0])) (KQ es ex m form n rs) (.out 2) (kQ es ex m' form n rs ts k),j5 141 [(.pin [(.dt (.row es)),(.dt (.row ex)),(j3 m')]),(o9 o6 n)] (.l7 [(j3 ↑ts.length),(j6 true)]),(es.length)=(es.length),(vi ↑ts.length)=(vi ↑ts.length),Bt .neq 3 206 208 ↑ts.length ↑ts.length bF,j5 59 [(o9 o6 n),(.dt (.row ts))] (o7 t),(ts.length)=(ts.length)] func114     ⟨A9 (K9 J),A9 (K9 J),A9 (K9 J),h1,rfl,A9 (decide_eq_false J),h0,h0,hs,.inl rfl,O7 _,ah (ne _ O),O7 _,ah (ne _ O),O7 _,ah (ne _ O),hm,rfl,hb,hlp,ha,rfl,rfl,E9 (decide_eq_true rfl),hp,rfl,Z⟩
theorem a8V{n:bi}{l:List Tr}{o:Tr}(h:o8.expand n l=some o):j5 139 [o9 o6 n] (j6 true):=by
 unfold o8.expand at h;split at h
 ·rename_i e;subst e;exact a8J
 split at h
 ·rename_i e;subst e;exact a6N
 split at h
 ·rename_i e;subst e;exact a8K
 split at h
 ·rename_i e;subst e;exact a8L
 split at h
 ·rename_i e;subst e;exact a8M
 split at h
 ·rename_i e;subst e;exact a8N
 ·cases h
theorem Gt{n:Int}(h:n.natAbs < 10 ^ 4):(Tr.num (n:Rat)).Ok 10000:=Tr.Ok.mono (k:=4) O (qi h)
theorem a3R{ws:List o8.E8}{f:o8.E8}(hw:(ws.map F3).length≤1000):∀(fuel:Nat),
  (∀(x:Tr) (m m':Int) (t:Te),o8.mE (o8.arity I5 ws f.nm f.ps) fuel m x=some (t,m')→0≤m→m≤500→(0≤m'∧m'≤m)∧t.Bd∧C8 mO [.ptr 0 0,l5 x,.dt (.row [])] (bf (ws.map F3) [F6 f] m) (.l7 [o7 t,j3 0]) (bf (ws.map F3) [F6 f] m')) ∧
  (∀(l:List Tr) (m m':Int) (ts:List Te),o8.uK (o8.arity I5 ws f.nm f.ps) fuel m l=some (ts,m')→0≤m→m≤500→(0≤m'∧m'≤m)∧ts.length=l.length∧(∀t∈ts,t.Bd)∧∀(form:Ob) (n:bi) (os:List Tr) (i:Nat) (us:List Te),os.length≤500→us.length=i→i≤os.length→os.drop i=l →
   J7 (J5 2) zy (kQ (ws.map F3) [F6 f] m form n (D8 os) (K4 us) i) (.out 2) (kQ (ws.map F3) [F6 f] m' form n (D8 os) (K4 (us++ts)) os.length)):=by
 intro fuel
 induction fuel with
 |zero=>exact⟨fun x m m' t h=>by simp[o8.mE]at h,fun l m m' ts h=>by simp[o8.uK]at h⟩
 |succ fuel ih =>
  obtain⟨ih1,ih2⟩:=ih;refine⟨?_,?_⟩
  ·intro x m m' t h h0 h5;cases x with
   |num q =>
    rw[o8.mE]at h;split at h
    ·rename_i hq;cases h;refine⟨⟨h0,Int.le_refl _⟩,?_,a8Q rfl (nN _)⟩;have hok:(Tr.num q).Ok 10000:=by
      rcases hq with rfl | rfl | rfl
      ·exact Gt (n:=0) O
      ·exact Gt (n:=1) O
      ·exact Gt (n:=-1) O
     exact .mk _ (hok.wf O) (hok.sm O) (Nat.zero_le _) (Nat.zero_le _) (Nat.zero_le _) (fun x hx=>by cases hx)
    ·cases h
   |txt s=>simp[o8.mE]at h
   |sym p n =>
    rw[o8.mE]at h;split at h
    ·rename_i hl;have hv:=Mt p n J J;split at h
     ·rename_i e;cases h;rw[e]at hv;exact⟨⟨h0,Int.le_refl _⟩,.mk _ Bp (.mk _ (Nat.zero_le _) (Nat.zero_le _) (fun x hx=>by cases hx)) (by show p.length≤_;omega) (by show n.length≤_;omega) (Nat.zero_le _) (fun x hx=>by cases hx),a8S rfl hv (Yt _ _) (a6S _ _)⟩
     ·rename_i e;cases h;rw[Bool.eq_false_iff.2 e]at hv;have hok:(Tr.sym p n).Ok 10000:=⟨J,J⟩;exact⟨⟨h0,Int.le_refl _⟩,.mk _ (hok.wf O) (hok.sm O) (Nat.zero_le _) (Nat.zero_le _) (Nat.zero_le _) (fun x hx=>by cases hx),a8R rfl hv (nN _)⟩
    ·cases h
   |cons a d =>
    rw[o8.mE]at h;split at h
    case h_2=>cases h
    rename_i p n l hi;have hx:=pR hi;split at h
    case isFalse=>cases h
    rename_i hc;obtain⟨rfl,hn,hs,hl⟩:=hc;rw[hx];have hk:(Tr.list (Tr.sym o6 n::l)).ob.kind=4:=rfl;have hlen:(D8 (Tr.sym o6 n::l)).length≠0:=by unfold D8;rw[List.length_map];simp
    have hit:=sK (l:=Tr.sym o6 n::l) (by rw[List.length_cons];omega);split at h
    ·rename_i hm;split at h
     case h_2=>cases h
     rename_i o ho;split at h
     case isFalse=>cases h
     rename_i h1;obtain⟨⟨g1,g2⟩,g3,g4⟩:=ih1 o (m - 1) m' t h J J;have hb:=a8V ho;exact⟨⟨g1,J⟩,g3,a8T hk hit hlen (lK _ _) (lJ _ _) hs (Qg hw) hb (a3P h1 h5) (a1x hit hlen (lK _ _) (lJ _ _) hb (a1w ho J)) g4⟩
    ·rename_i hm;split at h
     case h_2=>cases h
     rename_i ts m1 hts;split at h
     case isFalse=>cases h
     rename_i har;cases h;obtain⟨⟨g1,g2⟩,g3,g4,g5⟩:=ih2 l m m' ts hts h0 h5;have hlp:=g5 (Tr.list (Tr.sym o6 n::l)).ob n l 0 [] hl rfl (Nat.zero_le _) rfl;have ht:y7 (J5 2) (.loop zy) (KQ (ws.map F3) [F6 f] m (Tr.list (Tr.sym o6 n::l)).ob n (D8 l)) (.out 2) (kQ (ws.map F3) [F6 f] m' (Tr.list (Tr.sym o6 n::l)).ob n (D8 l) (K4 ts) l.length):=y7.Z4 23 50 11 (by show 23 < 214;omega) rfl hlp.K3;refine⟨⟨g1,g2⟩,.mk _ Bp (.mk _ (Nat.zero_le _) (Nat.zero_le _) (fun x hx=>by cases hx)) (by show o6.length≤_;decide) (by show n.length≤_;omega) (by show ts.length≤_;omega) g4,a8U hk hit hlen (lK _ _) (lJ _ _) hs (Qg hw) (a8O hm) ht ?_ (GU _ _ _)⟩
     have hay:=a3Q (m:=m') hw har;unfold K4;rw[List.length_map];exact hay
  ·intro l m m' ts h h0 h5;cases l with
   |nil =>
    rw[o8.uK]at h;cases h;refine⟨⟨h0,Int.le_refl _⟩,rfl,(fun t ht=>by cases ht),fun form n os i us ho hu hi hd=>?_⟩;have e1:=congrArg List.length hd;rw[List.length_drop,List.length_nil]at e1;obtain rfl:i=os.length:=J;rw[List.append_nil];exact .stop (b1n (by unfold D8;rw[List.length_map])) (fun h=>by cases h)
   |cons x r =>
    rw[o8.uK]at h;split at h
    case h_2=>cases h
    rename_i t m1 ht;split at h
    case h_2=>cases h
    rename_i ts' m2 hts;cases h;obtain⟨⟨g1,g2⟩,g3,g4⟩:=ih1 x m m1 t ht h0 h5;obtain⟨⟨k1,k2⟩,k3,k4,k5⟩:=ih2 r m1 m' ts' hts g1 J;refine⟨⟨k1,J⟩,by rw[List.length_cons,List.length_cons,k3],fun y hy=>?_,fun form n os i us ho hu hi hd=>?_⟩
    ·rcases List.mem_cons.1 hy with rfl | hy
     ·exact g3
     ·exact k4 y hy
    ·have hx:os[i]?=some x:=by rw[←List.head?_drop,hd];rfl
     have hlt:=(List.getElem?_eq_some_iff.1 hx).1;have hix:z8 (D8 os) (i:Int) 7 (y8 x.ob):=⟨Int.natCast_nonneg _,by rw[Int.toNat_natCast];unfold D8;rw[List.getElem?_map,hx];rfl,rfl⟩;have hs:=b1m (form:=form) (n:=n) (ts:=K4 us) (by unfold D8;rw[List.length_map];exact hlt) (by unfold D8;rw[List.length_map];omega) (by rw[List.length_map];omega) hix g4;have e:K4 us++[p9 t]=K4 (us++[t]):=by unfold K4;rw[List.map_append,gW]
     rw[e]at hs;have hn:=k5 form n os (i+1) (us++[t]) ho (by simp[hu]) hlt (by rw[←List.drop_drop,hd];rfl);rw[List.append_assoc,List.singleton_append]at hn;exact .more hs hn
theorem a1y{es ex:bv}{m':Int}{form:Ob}{t:Te}(h:C8 mO [.ptr 0 0,l9 form,.dt (.row [])] (bf es ex 500) (.l7 [o7 t,j3 0]) (bf es ex m'))(hv:j5 115 [o7 t] (j6 true)):C8 70 [.own 0 es.length,.dt (.row ex),l9 form] [wB es] (.l7 [o7 t,j3 0]) [wB es] :=
 sW 1 [0] [.no,yT] [.J6 2 2 [3,0] (.l7 [o7 t,j3 0]) [some (.cells [.own 1 es.length,.dt (.row ex),j3 m']),some (.buf 87 32 es)]] [_,_] func70 ⟨h,hv,Z⟩
theorem a1z{ws:List o8.E8}{f:o8.E8}(hw:ws.length≤1000){x:Tr}{t:Te}(h:o8.za (o8.arity I5 ws f.nm f.ps) x=some t):C8 70 [.own 0 (ws.map F3).length,.dt (.row [F6 f]),l5 x] [wB (ws.map F3)] (.l7 [o7 t,j3 0]) [wB (ws.map F3)]:=by
 unfold o8.za at h;split at h
 case h_2=>cases h
 rename_i t' m' ht;split at h
 case isFalse=>cases h
 rename_i hv;cases h;obtain⟨_,hb,hs⟩:=(a3R (by rw[List.length_map];exact hw) 100).1 x 500 m' t ht O O;have h8:=ZQ hb;rw[hv]at h8;exact a1y hs h8
abbrev mP(os:bv)(nm:bi)(i:Int):AS:=⟨stt 43 [(0,.dt (.row os)),(1,stA nm),(4,.ptr 0 0),(6,j3 i)],[some (.cells [j3 0,stA [],stA [],stA [],stA [],stA [],.nil])]⟩
abbrev KR(b:Ob):AS:=⟨stt 43 [(4,.ptr 0 0),(5,j6 true)],[some (.cells ((y8 b).map .dt))]⟩
noncomputable abbrev zz:Code:=M9 (P6 f71) [1,0,1,0,0]
theorem b1o{os:bv}{nm p n:bi}{i:Nat}{x b:Ob}(hi:i+1 < os.length)(hl:os.length≤1000)(hx:z8 os (i:Int) 7 (y8 x))(h:j5 69 [l9 x] (.l7 [.dt (.row [y8 (Tr.sym p n).ob,y8 b]),j6 true]))(hn:(decide (p=o6) && decide (n=nm))=false):y7 EX zz (mP os nm i) .F4 (mP os nm ((i+1:Nat):Int)) :=
 tW [.av (j3 ((i+1:Nat):Int)),.av (j3 os.length),yT,.av (.pin ((y8 x).map .dt)),.av (.l7 [.dt (.row [y8 (Tr.sym p n).ob,y8 b]),j6 true]),.no,.no,.no,.av (o9 o6 nm),yF,.av (j3 ((i+1:Nat):Int))] [] [0,1,4,6] 1 [Bk .add 3 9 1 ↑i (vi (↑(i+1))),(vi ↑os.length)=(vi ↑os.length),Bt .lss 3 10 12 (↑(i+1)) ↑os.length bT,_,_,j5 36 [(stA nm)] (o9 o6 nm),Bn .eql 45 (.tmp 34) (.tmp 36) (Value.agg #[str (Tr.sym p n).ob.sp,str (Tr.sym p n).ob.sn]) (Value.agg #[str o6,str nm]) bF,Bk .add 3 14 1 ↑i (vi (↑(i+1)))] ⟨I4 J J J,rfl,C9 (decide_eq_true J),hx,h,O7 _,ah hn,I4 J J J,Z⟩
theorem b1p{os:bv}{nm p n:bi}{i:Nat}{x b:Ob}(hi:i+1 < os.length)(hl:os.length≤1000)(hx:z8 os (i:Int) 7 (y8 x))(h:j5 69 [l9 x] (.l7 [.dt (.row [y8 (Tr.sym p n).ob,y8 b]),j6 true]))(hn:(decide (p=o6) && decide (n=nm))=true):y7 EX zz (mP os nm i) .ret (KR b) :=
 tW [.av (j3 ((i+1:Nat):Int)),.av (j3 os.length),yT,.av (.pin ((y8 x).map .dt)),.av (.l7 [.dt (.row [y8 (Tr.sym p n).ob,y8 b]),j6 true]),.no,.no,.no,.av (o9 o6 nm),yT] [] [4,5] 1 [Bk .add 3 9 1 ↑i (vi (↑(i+1))),(vi ↑os.length)=(vi ↑os.length),Bt .lss 3 10 12 (↑(i+1)) ↑os.length bT,_,_,j5 36 [(stA nm)] (o9 o6 nm),Bn .eql 45 (.tmp 34) (.tmp 36) (Value.agg #[str (Tr.sym p n).ob.sp,str (Tr.sym p n).ob.sn]) (Value.agg #[str o6,str nm]) bT] ⟨I4 J J J,rfl,C9 (decide_eq_true J),hx,h,O7 _,ah hn,Z⟩
theorem UN{os:bv}{nm:bi}{i:Nat}(hi:¬i+1 < os.length)(hl:i≤1000):y7 EX zz (mP os nm i) (.out 0) (mP os nm i) :=
 tW [.av (j3 ((i+1:Nat):Int)),.av (j3 os.length),yF] [] [0,1,4,6] 1 [Bk .add 3 9 1 ↑i (vi (↑(i+1))),(vi ↑os.length)=(vi ↑os.length),Bt .lss 3 10 12 (↑(i+1)) ↑os.length bF] ⟨I4 J J J,rfl,C9 (decide_eq_false J),Z⟩
theorem Qh{os:List Tr}{nm:bi}(hl:os.length≤1000):∀(s:List Tr) (i:Nat),os.drop i=s→i≤os.length→∀res,o8.option nm s=some res→(∀b:Tr,res=some b→J7 EX zz (mP (D8 os) nm i) .ret (KR b.ob))∧(res=none→∃j:Nat,J7 EX zz (mP (D8 os) nm i) (.out 0) (mP (D8 os) nm j)):=by
 have hlo:(D8 os).length=os.length:=by unfold D8;rw[List.length_map]
 intro s
 induction s with
 |nil =>
  intro i hd hi res h;cases h;have e1:=congrArg List.length hd;rw[List.length_drop,List.length_nil]at e1;exact⟨(fun b e=>by cases e),fun _=>⟨i,.stop (UN J J) (fun h=>by cases h)⟩⟩
 |cons x s ih =>
  intro i hd hi res h;have e1:=congrArg List.length hd;rw[List.length_drop,List.length_cons]at e1;cases s with
  |nil =>
   cases h;rw[List.length_nil]at e1;exact⟨(fun b e=>by cases e),fun _=>⟨i,.stop (UN J J) (fun h=>by cases h)⟩⟩
  |cons y r =>
   rw[List.length_cons]at e1;have hx:os[i]?=some x:=by rw[←List.head?_drop,hd];rfl
   have hix:z8 (D8 os) (i:Int) 7 (y8 x.ob):=⟨Int.natCast_nonneg _,by rw[Int.toNat_natCast];unfold D8;rw[List.getElem?_map,hx];rfl,rfl⟩;rw[o8.option]at h;split at h
   case h_2=>cases h
   rename_i p n b hit;have hxe:=pR hit;have hI:=sK (l:=[Tr.sym p n,b]) (by show 2≤10000;decide);rw[←hxe]at hI;split at h
   ·rename_i c;cases h;refine⟨fun b' e=>?_,fun e=>by cases e⟩;cases e;exact .stop (b1p J J hix hI (by simp[c.1,c.2])) (fun h=>by cases h)
   ·rename_i c;obtain⟨k1,k2⟩:=ih (i+1) (by rw[←List.drop_drop,hd];rfl) J res h;have hs:=b1o (nm:=nm) (b:=b.ob) J J hix hI (by
     by_cases a1:p=o6
     ·have:n≠nm:=fun a2=>c ⟨a1,a2⟩
      simp[this]
     ·simp[a1])
    exact⟨fun b' e=>.more hs (k1 b' e),fun e=>by
     obtain⟨j,k3⟩:=k2 e;exact⟨j,.more hs k3⟩⟩
theorem EU{os:List Tr}{nm:bi}{b:Tr}(hl:os.length≤1000)(h3:3≤os.length)(h:o8.option nm (os.drop 3)=some (some b)):j5 71 [J2 os,stA nm] (.l7 [l5 b,j6 true]):=by
 have ht:=((Qh hl _ 3 rfl h3 _ h).1 b rfl).K3;generalize D8 os=rs at *;exact pW [] [.inv [0,1,4,6] 1 (.ret) (KR b.ob)] [_] func71 ⟨ht,Z⟩
theorem EW{os:List Tr}{nm:bi}(hl:os.length≤1000)(h3:3≤os.length)(h:o8.option nm (os.drop 3)=some none):j5 71 [J2 os,stA nm] (.l7 [l9 U0,j6 false]):=by
 obtain⟨j,hj⟩:=(Qh hl _ 3 rfl h3 _ h).2 rfl;have ht:=hj.K3;generalize D8 os=rs at *;exact pW [] [.inv [0,1,4,6] 1 (.out 0) (mP rs nm j)] [_] func71 ⟨ht,Z⟩
abbrev zT:List AV:=[j3 0,stA [],stA [],j3 0,stA [],stA [],stA [],stA [],stA [],.nil,.nil]
abbrev WB:List AV:=j3 0::stA []::stA []::stA []::.nil::stA []::stA []::.nil::j6 false::(zT++[.nil,.nil,.nil,.nil,stA [],stA [],.nil,.nil,.nil,.nil,stA [],.dt (.val (.int .u64 0))])
abbrev WC(nm:bi)(p:AV):List AV:=stA o6::stA nm::p::j3 1::((p9 p8).map .dt++(zT++zT))
abbrev qI(f:o8.E8):AV:=.agg (j3 3::stA o6::stA f.nm::stA []::.nil::stA []::stA []::.nil::j6 false::(zT++[.dt (.row [F6 f]),.nil,.nil,.nil,stA [],stA [],.nil,.nil,.nil,.nil,stA [],.dt (.val (.int .u64 0))]))
abbrev en0(es os:bv)(form:Ob)(nm:bi)(qs:bv):AS:=⟨stt 99 [(0,.own 0 es.length),(3,.ptr 1 0),(4,.ptr 2 0),(5,.dt (.row os)),(7,.ptr 3 0),(8,.dt (.row qs)),(10,j3 0)],[wB es,some (.cells ((y8 form).map .dt)),some (.cells WB),some (.cells (WC nm .nil))]⟩
abbrev dY(es os:bv)(form:Ob)(nm:bi)(qs rs:bv)(i:Int):AS:=⟨stt 99 [(0,.own 0 es.length),(3,.ptr 1 0),(4,.ptr 2 0),(5,.dt (.row os)),(7,.ptr 3 0),(8,.dt (.row qs)),(10,j3 i)],[wB es,some (.cells ((y8 form).map .dt)),some (.cells WB),some (.cells (WC nm (.own 4 rs.length))),some (.buf 45 2 rs)]⟩
theorem wD(n:bi):L6 2 [G5 n]:=by
 intro x hx;rw[List.mem_singleton]at hx;subst hx;exact⟨rfl,fun d hd=>by simp only[List.mem_cons,List.not_mem_nil,or_false]at hd;rcases hd with rfl | rfl <;> rfl⟩
noncomputable abbrev mQ:Code:=M9 (P6 f35) [1,1,1,1,0,1,0,0]
theorem b1q{es os qs:bv}{form:Ob}{nm n:bi}(hi:0 < qs.length)(hx:z8 qs 0 7 (y8 (K8 n))):y7 (J5 1) mQ (en0 es os form nm qs) .F4 (dY es os form nm qs [G5 n] 1) :=
 tW [.av (j3 qs.length),yT,.av (.pin ((y8 (K8 n)).map .dt)),.av (.un),.no] [] [0,3,4,5,7,8,10] 5 [(vi ↑qs.length)=(vi ↑qs.length),Bt .lss 3 35 37 0 ↑qs.length bT,_,P9 32 (([[Dt.val (str (K8 n).sp),Dt.val (str (K8 n).sn)]]).length),L6 2 [[(.val (str (K8 n).sp)),(.val (str (K8 n).sn))]]] ⟨rfl,C9 (decide_eq_true J),hx,bG J I,wD n,Z⟩
theorem b1r{es os qs rs:bv}{form:Ob}{nm n:bi}{i:Nat}(hi:i < qs.length)(hl:qs.length≤1000)(hr:rs.length≤1000)(hx:z8 qs (i:Int) 7 (y8 (K8 n))):y7 (J5 1) mQ (dY es os form nm qs rs i) .F4 (dY es os form nm qs (rs++[G5 n]) ((i+1:Nat):Int)) :=
 tW [.av (j3 qs.length),yT,.av (.pin ((y8 (K8 n)).map .dt)),.av (.un),.av (j3 ((i+1:Nat):Int))] [] [0,3,4,5,7,8,10] 5 [(vi ↑qs.length)=(vi ↑qs.length),Bt .lss 3 35 37 ↑i ↑qs.length bT,_,(rs.length)=(rs.length),P9 32 ((rs++[[Dt.val (str (K8 n).sp),Dt.val (str (K8 n).sn)]]).length),L6 2 [[(.val (str (K8 n).sp)),(.val (str (K8 n).sn))]],Bk .add 3 39 1 ↑i (vi (↑(i+1)))] ⟨rfl,C9 (decide_eq_true J),hx,rfl,bG J (by simp;omega),wD n,I4 J J J,Z⟩
theorem b1s{es os qs rs:bv}{form:Ob}{nm:bi}{i:Nat}(hi:i=qs.length):y7 (J5 1) mQ (dY es os form nm qs rs i) (.out 0) (dY es os form nm qs rs i) :=
 tW [.av (j3 qs.length),yF] [] [0,3,4,5,7,8,10] 5 [(vi ↑qs.length)=(vi ↑qs.length),Bt .lss 3 35 37 ↑i ↑qs.length bF] ⟨rfl,C9 (decide_eq_false J),Z⟩
theorem a3S{es os qs:bv}{ps:List (bi)}{nm:bi}{form px b:Ob}{bt:Te}{k:Int}(h1:j5 69 [l9 form] (.l7 [.dt (.row os),j6 true]))(hx1:z8 os 1 7 (y8 (K8 nm)))(hx2:z8 os 2 7 (y8 px))(h2:j5 69 [l9 px] (.l7 [.dt (.row qs),j6 true]))(hlp:y7 (J5 1) (.loop mQ) (en0 es os form nm qs) (.out 0) (dY es os form nm qs (ps.map G5) k))(hz:z8 os (os.length - 1) 7 (y8 b))(hl:os.length≤1000)(hb:C8 70 [.own 0 es.length,.dt (.row [F6 ⟨nm,ps,p8,E5,E5⟩]),l9 b] [wB es] (.l7 [o7 bt,j3 0]) [wB es])(hg:j5 71 [.dt (.row os),stA o8.tY] (.l7 [l9 U0,j6 false]))(hm:j5 71 [.dt (.row os),stA o8.uq] (.l7 [l9 U0,j6 false])):C8 35 [.own 0 es.length,l9 form] [wB es] (qI ⟨nm,ps,p8,bt,E5⟩) [wB es] :=
 sW 1 [0] [.av (.l7 [.dt (.row os),j6 true]),.av (.pin ((y8 (K8 nm)).map .dt)),.av (l9 tO),.av (o7 p8),.av (.pin ((y8 px).map .dt)),.av (.l7 [.dt (.row qs),j6 true]),.av (j3 os.length),.av (j3 (os.length - 1)),.av (.pin ((y8 b).map .dt)),.av (.l7 [l9 U0,j6 false]),.av (.l7 [l9 U0,j6 false])] [.inv [0,3,4,5,7,8,10] 4 (.out 0) (dY es os form nm qs (ps.map G5) k),.J6 9 8 [0] (.l7 [o7 bt,j3 0]) [some (.buf 87 32 es)]] [_,_,_,j5 53 [(l9 tO)] (.agg [(j3 2),(stA p8.np),(stA p8.nn),(j3 2),(stA p8.val.num),(stA p8.val.den),(stA p8.val.sp),(stA p8.val.sn),(stA p8.val.text),(.dt (.row (List.map Ob.enc p8.val.pair))),(.dt (.row (List.map Te.enc p8.args)))]),_,_,_,((List.map G5 ps).length)=((List.map G5 ps).length),(vi ↑os.length)=(vi ↑os.length),Bk .sub 3 58 1 ↑os.length (vi (↑os.length - 1)),_,_,_,_,((List.map G5 ps).length)=((List.map G5 ps).length)] func35 ⟨h1,hx1,yu,nN _,hx2,h2,hlp,rfl,rfl,bE rfl J J,hz,hb,hg,hm,rfl,Z⟩
theorem a3T{es os qs:bv}{ps:List (bi)}{nm:bi}{form px b mo:Ob}{bt mt:Te}{k:Int}(h1:j5 69 [l9 form] (.l7 [.dt (.row os),j6 true]))(hx1:z8 os 1 7 (y8 (K8 nm)))(hx2:z8 os 2 7 (y8 px))(h2:j5 69 [l9 px] (.l7 [.dt (.row qs),j6 true]))(hlp:y7 (J5 1) (.loop mQ) (en0 es os form nm qs) (.out 0) (dY es os form nm qs (ps.map G5) k))(hz:z8 os (os.length - 1) 7 (y8 b))(hl:os.length≤1000)(hb:C8 70 [.own 0 es.length,.dt (.row [F6 ⟨nm,ps,p8,E5,E5⟩]),l9 b] [wB es] (.l7 [o7 bt,j3 0]) [wB es])(hg:j5 71 [.dt (.row os),stA o8.tY] (.l7 [l9 U0,j6 false]))(hm:j5 71 [.dt (.row os),stA o8.uq] (.l7 [l9 mo,j6 true]))(hmt:C8 70 [.own 0 es.length,.dt (.row [F6 ⟨nm,ps,p8,E5,E5⟩]),l9 mo] [wB es] (.l7 [o7 mt,j3 0]) [wB es]):C8 35 [.own 0 es.length,l9 form] [wB es] (qI ⟨nm,ps,p8,bt,mt⟩) [wB es] :=
 sW 1 [0] [.av (.l7 [.dt (.row os),j6 true]),.av (.pin ((y8 (K8 nm)).map .dt)),.av (l9 tO),.av (o7 p8),.av (.pin ((y8 px).map .dt)),.av (.l7 [.dt (.row qs),j6 true]),.av (j3 os.length),.av (j3 (os.length - 1)),.av (.pin ((y8 b).map .dt)),.av (.l7 [l9 U0,j6 false]),.av (.l7 [l9 mo,j6 true])] [.inv [0,3,4,5,7,8,10] 4 (.out 0) (dY es os form nm qs (ps.map G5) k),.J6 9 8 [0] (.l7 [o7 bt,j3 0]) [some (.buf 87 32 es)],.J6 15 3 [0] (.l7 [o7 mt,j3 0]) [some (.buf 87 32 es)]] [_,_,_,j5 53 [(l9 tO)] (.agg [(j3 2),(stA p8.np),(stA p8.nn),(j3 2),(stA p8.val.num),(stA p8.val.den),(stA p8.val.sp),(stA p8.val.sn),(stA p8.val.text),(.dt (.row (List.map Ob.enc p8.val.pair))),(.dt (.row (List.map Te.enc p8.args)))]),_,_,_,((List.map G5 ps).length)=((List.map G5 ps).length),(vi ↑os.length)=(vi ↑os.length),Bk .sub 3 58 1 ↑os.length (vi (↑os.length - 1)),_,_,_,_,_,((List.map G5 ps).length)=((List.map G5 ps).length)] func35 ⟨h1,hx1,yu,nN _,hx2,h2,hlp,rfl,rfl,bE rfl J J,hz,hb,hg,hm,hmt,rfl,Z⟩
theorem a3U{es os qs:bv}{ps:List (bi)}{nm:bi}{form px b go:Ob}{bt gt:Te}{k:Int}(h1:j5 69 [l9 form] (.l7 [.dt (.row os),j6 true]))(hx1:z8 os 1 7 (y8 (K8 nm)))(hx2:z8 os 2 7 (y8 px))(h2:j5 69 [l9 px] (.l7 [.dt (.row qs),j6 true]))(hlp:y7 (J5 1) (.loop mQ) (en0 es os form nm qs) (.out 0) (dY es os form nm qs (ps.map G5) k))(hz:z8 os (os.length - 1) 7 (y8 b))(hl:os.length≤1000)(hb:C8 70 [.own 0 es.length,.dt (.row [F6 ⟨nm,ps,p8,E5,E5⟩]),l9 b] [wB es] (.l7 [o7 bt,j3 0]) [wB es])(hg:j5 71 [.dt (.row os),stA o8.tY] (.l7 [l9 go,j6 true]))(hgt:C8 70 [.own 0 es.length,.dt (.row [F6 ⟨nm,ps,p8,E5,E5⟩]),l9 go] [wB es] (.l7 [o7 gt,j3 0]) [wB es])(hm:j5 71 [.dt (.row os),stA o8.uq] (.l7 [l9 U0,j6 false])):C8 35 [.own 0 es.length,l9 form] [wB es] (qI ⟨nm,ps,gt,bt,E5⟩) [wB es] :=
 sW 1 [0] [.av (.l7 [.dt (.row os),j6 true]),.av (.pin ((y8 (K8 nm)).map .dt)),.av (l9 tO),.av (o7 p8),.av (.pin ((y8 px).map .dt)),.av (.l7 [.dt (.row qs),j6 true]),.av (j3 os.length),.av (j3 (os.length - 1)),.av (.pin ((y8 b).map .dt)),.av (.l7 [l9 go,j6 true]),.av (.l7 [l9 U0,j6 false])] [.inv [0,3,4,5,7,8,10] 4 (.out 0) (dY es os form nm qs (ps.map G5) k),.J6 9 8 [0] (.l7 [o7 bt,j3 0]) [some (.buf 87 32 es)],.J6 12 3 [0] (.l7 [o7 gt,j3 0]) [some (.buf 87 32 es)]] [_,_,_,j5 53 [(l9 tO)] (.agg [(j3 2),(stA p8.np),(stA p8.nn),(j3 2),(stA p8.val.num),(stA p8.val.den),(stA p8.val.sp),(stA p8.val.sn),(stA p8.val.text),(.dt (.row (List.map Ob.enc p8.val.pair))),(.dt (.row (List.map Te.enc p8.args)))]),_,_,_,((List.map G5 ps).length)=((List.map G5 ps).length),(vi ↑os.length)=(vi ↑os.length),Bk .sub 3 58 1 ↑os.length (vi (↑os.length - 1)),_,_,_,_,_,((List.map G5 ps).length)=((List.map G5 ps).length)] func35 ⟨h1,hx1,yu,nN _,hx2,h2,hlp,rfl,rfl,bE rfl J J,hz,hb,hg,hgt,hm,rfl,Z⟩
theorem a3V{es os qs:bv}{ps:List (bi)}{nm:bi}{form px b go mo:Ob}{bt gt mt:Te}{k:Int}(h1:j5 69 [l9 form] (.l7 [.dt (.row os),j6 true]))(hx1:z8 os 1 7 (y8 (K8 nm)))(hx2:z8 os 2 7 (y8 px))(h2:j5 69 [l9 px] (.l7 [.dt (.row qs),j6 true]))(hlp:y7 (J5 1) (.loop mQ) (en0 es os form nm qs) (.out 0) (dY es os form nm qs (ps.map G5) k))(hz:z8 os (os.length - 1) 7 (y8 b))(hl:os.length≤1000)(hb:C8 70 [.own 0 es.length,.dt (.row [F6 ⟨nm,ps,p8,E5,E5⟩]),l9 b] [wB es] (.l7 [o7 bt,j3 0]) [wB es])(hg:j5 71 [.dt (.row os),stA o8.tY] (.l7 [l9 go,j6 true]))(hgt:C8 70 [.own 0 es.length,.dt (.row [F6 ⟨nm,ps,p8,E5,E5⟩]),l9 go] [wB es] (.l7 [o7 gt,j3 0]) [wB es])(hm:j5 71 [.dt (.row os),stA o8.uq] (.l7 [l9 mo,j6 true]))(hmt:C8 70 [.own 0 es.length,.dt (.row [F6 ⟨nm,ps,p8,E5,E5⟩]),l9 mo] [wB es] (.l7 [o7 mt,j3 0]) [wB es]):C8 35 [.own 0 es.length,l9 form] [wB es] (qI ⟨nm,ps,gt,bt,mt⟩) [wB es] :=
 sW 1 [0] [.av (.l7 [.dt (.row os),j6 true]),.av (.pin ((y8 (K8 nm)).map .dt)),.av (l9 tO),.av (o7 p8),.av (.pin ((y8 px).map .dt)),.av (.l7 [.dt (.row qs),j6 true]),.av (j3 os.length),.av (j3 (os.length - 1)),.av (.pin ((y8 b).map .dt)),.av (.l7 [l9 go,j6 true]),.av (.l7 [l9 mo,j6 true])] [.inv [0,3,4,5,7,8,10] 4 (.out 0) (dY es os form nm qs (ps.map G5) k),.J6 9 8 [0] (.l7 [o7 bt,j3 0]) [some (.buf 87 32 es)],.J6 12 3 [0] (.l7 [o7 gt,j3 0]) [some (.buf 87 32 es)],.J6 15 3 [0] (.l7 [o7 mt,j3 0]) [some (.buf 87 32 es)]] [_,_,_,j5 53 [(l9 tO)] (.agg [(j3 2),(stA p8.np),(stA p8.nn),(j3 2),(stA p8.val.num),(stA p8.val.den),(stA p8.val.sp),(stA p8.val.sn),(stA p8.val.text),(.dt (.row (List.map Ob.enc p8.val.pair))),(.dt (.row (List.map Te.enc p8.args)))]),_,_,_,((List.map G5 ps).length)=((List.map G5 ps).length),(vi ↑os.length)=(vi ↑os.length),Bk .sub 3 58 1 ↑os.length (vi (↑os.length - 1)),_,_,_,_,_,_,((List.map G5 ps).length)=((List.map G5 ps).length)] func35 ⟨h1,hx1,yu,nN _,hx2,h2,hlp,rfl,rfl,bE rfl J J,hz,hb,hg,hgt,hm,hmt,rfl,Z⟩
theorem Om:∀{l:List Tr} {ps:List (bi)},o8.Ct l=some ps→l=ps.map (Tr.sym o6 ·)
 |[],ps,h=>by cases h;rfl
 |.sym p n::r,ps,h=>by
  rw[o8.Ct]at h;split at h
  ·rename_i e;subst e;rw[Option.map_eq_some_iff]at h;obtain⟨qs,h1,rfl⟩:=h;rw[List.map_cons,←Om h1]
  ·cases h
 |.num _::_,_,h=>by cases h
 |.txt _::_,_,h=>by cases h
 |.cons _ _::_,_,h=>by cases h
theorem RA{ps:List (bi)}{i:Nat}{n:bi}(h:ps[i]?=some n):z8 (D8 (ps.map (Tr.sym o6 ·))) (i:Int) 7 (y8 (K8 n)):=⟨Int.natCast_nonneg _,by rw[Int.toNat_natCast];unfold D8;rw[List.getElem?_map,List.getElem?_map,h];rfl,rfl⟩
theorem a3W{es os:bv}{form:Ob}{nm:bi}{ps:List (bi)}(hl:ps.length≤8):∀(s:List (bi)) (i:Nat),ps.drop i=s→i≤ps.length→J7 (J5 1) mQ (dY es os form nm (D8 (ps.map (Tr.sym o6 ·))) ((ps.take i).map G5) i) (.out 0) (dY es os form nm (D8 (ps.map (Tr.sym o6 ·))) (ps.map G5) ps.length):=by
 have hlo:(D8 (ps.map (Tr.sym o6 ·))).length=ps.length:=by unfold D8;rw[List.length_map,List.length_map]
 intro s
 induction s with
 |nil =>
  intro i hd hi;have e1:=congrArg List.length hd;rw[List.length_drop,List.length_nil]at e1;obtain rfl:i=ps.length:=J;rw[List.take_length];exact .stop (b1s hlo.symm) (fun h=>by cases h)
 |cons x s ih =>
  intro i hd hi;have hx:ps[i]?=some x:=by rw[←List.head?_drop,hd];rfl
  have hlt:=(List.getElem?_eq_some_iff.1 hx).1;have hs:=b1r (es:=es) (os:=os) (form:=form) (nm:=nm) (rs:=(ps.take i).map G5) J J (by rw[List.length_map,List.length_take];omega) (RA hx);have e:(ps.take i).map G5++[G5 x]=(ps.take (i+1)).map G5:=by rw[List.take_add_one,hx,List.map_append];rfl
  rw[e]at hs;exact .more hs (ih (i+1) (by rw[←List.drop_drop,hd];rfl) J)
theorem a3X{ws:List o8.E8}(hw:ws.length≤900){x:Tr}{f:o8.E8}(h:o8.entry I5 ws x=some f):C8 35 [.own 0 (ws.map F3).length,l5 x] [wB (ws.map F3)] (qI f) [wB (ws.map F3)]:=by
 unfold o8.entry at h;split at h
 case h_2=>cases h
 rename_i d p nm px y r hi;split at h
 case h_2=>cases h
 rename_i pl hpx;split at h
 case h_2=>cases h
 rename_i ps hps;split at h
 case isFalse=>cases h
 rename_i hc;obtain⟨rfl,hnm,hpn,hpl,hr⟩:=hc;split at h
 case h_2=>cases h
 rename_i bt gt mt hb hg hm;cases h;have hx:=pR hi;have hpx:=pR hpx;have b1t:=Om hps;subst b1t;subst hx;subst hpx;have hI:=sK (l:=d::Tr.sym o6 nm::Tr.list (ps.map (Tr.sym o6 ·))::y::r) (by simp only[List.length_cons];omega);have hP:=sK (l:=ps.map (Tr.sym o6 ·)) (by rw[List.length_map];omega);have hL3:(d::Tr.sym o6 nm::Tr.list (ps.map (Tr.sym o6 ·))::y::r).drop 3=y::r:=rfl;have hLl:(d::Tr.sym o6 nm::Tr.list (ps.map (Tr.sym o6 ·))::y::r).length=r.length+4:=rfl;have hlast:(d::Tr.sym o6 nm::Tr.list (ps.map (Tr.sym o6 ·))::y::r)[r.length+3]?=some ((y::r).getLast I):=by
  show (y::r)[r.length]?=_;rw[List.getLast_eq_getElem,List.getElem?_eq_getElem I];rfl
 generalize WE:(d::Tr.sym o6 nm::Tr.list (ps.map (Tr.sym o6 ·))::y::r)=L at *;have hlo:(D8 L).length=r.length+4:=by unfold D8;rw[List.length_map,hLl]
 have hx1:z8 (D8 L) 1 7 (y8 (K8 nm)):=by subst WE;exact⟨O,rfl,rfl⟩
 have hx2:z8 (D8 L) 2 7 (y8 (Tr.list (ps.map (Tr.sym o6 ·))).ob):=by subst WE;exact⟨O,rfl,rfl⟩
 have hz:z8 (D8 L) ((D8 L).length - 1) 7 (y8 ((y::r).getLast I).ob):=⟨J,by
  rw[hlo];have:((((r.length+4:Nat):Int) - 1)).toNat=r.length+3:=J;rw[this];unfold D8;rw[List.getElem?_map,hlast];rfl,rfl⟩
 have hlp:y7 (J5 1) (.loop mQ) (en0 (ws.map F3) (D8 L) (Tr.list L).ob nm (D8 (ps.map (Tr.sym o6 ·)))) (.out 0) (dY (ws.map F3) (D8 L) (Tr.list L).ob nm (D8 (ps.map (Tr.sym o6 ·))) (ps.map G5) ps.length):=by
  cases ps with
  |nil=>exact absurd rfl hpn
  |cons n0 ps' =>
   have hs:=b1q (es:=ws.map F3) (os:=D8 L) (form:=(Tr.list L).ob) (nm:=nm) (n:=n0) (qs:=D8 ((n0::ps').map (Tr.sym o6 ·))) (by simp[D8]) (RA (i:=0) rfl);have hn:=a3W (es:=ws.map F3) (os:=D8 L) (form:=(Tr.list L).ob) (nm:=nm) hpl _ 1 rfl I;exact (J7.more hs hn).K3
 have hT:∀{o:Tr} {t:Te},o8.za (o8.arity I5 ws nm ps) o=some t→C8 70 [.own 0 (ws.map F3).length,.dt (.row [F6 ⟨nm,ps,p8,E5,E5⟩]),l5 o] [wB (ws.map F3)] (.l7 [o7 t,j3 0]) [wB (ws.map F3)]:=fun h=>a1z (f:=⟨nm,ps,p8,E5,E5⟩) J h
 have hbS:=hT hb;have hll:(D8 L).length≤1000:=J;cases hgo:o8.option o8.tY (y::r) with
 |none=>rw[hgo]at hg;cases hg
 |some go =>
  rw[hgo]at hg;cases hmo:o8.option o8.uq (y::r) with
  |none=>rw[hmo]at hm;cases hm
  |some mo =>
   rw[hmo]at hm;rw[←hL3]at hgo hmo;cases go with
   |none =>
    cases hg;have kg:=EW J J hgo;cases mo with
    |none =>
     cases hm;exact a3S hI hx1 hx2 hP hlp hz hll hbS kg (EW J J hmo)
    |some mo=>exact a3T hI hx1 hx2 hP hlp hz hll hbS kg (EU J J hmo) (hT hm)
   |some go =>
    have kg:=EU J J hgo;cases mo with
    |none =>
     cases hm;exact a3U hI hx1 hx2 hP hlp hz hll hbS kg (hT hg) (EW J J hmo)
    |some mo=>exact a3V hI hx1 hx2 hP hlp hz hll hbS kg (hT hg) (EU J J hmo) (hT hm)
end Go.Proofs.YtdkehabacmlegaaGreatDoor
