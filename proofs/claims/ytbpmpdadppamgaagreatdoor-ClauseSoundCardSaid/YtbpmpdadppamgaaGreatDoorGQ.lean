/- Which terms are valid: the reference's formed and Valid, of terms and clauses. -/
import Derived.Test.YtbpmpdadppamgaaGreatDoorGP
import Derived.Test.YtbpmpdadppamgaaGreatDoorGM
import Derived.Test.YtbpmpdadppamgaaGreatDoorGH
namespace Go.Proofs.YtbpmpdadppamgaaGreatDoor
open Go.Proofs.Tryz
open Go.RowKit
open Te
theorem b3e{o:Ob}(h:o.Wf):j5 49 [o7 o,o7 Q9] (l5 (decide (o=Q9))):=VH h Q9
theorem Qg(p n:lw)(hp:p.length≤9223372036854775807)(hn:n.length≤9223372036854775807):j5 133 [p8 p n] (l5 (xe p n)):=by
 have hs:=Un p n hp hn;unfold xe;cases h1:R6 ⟨p,n⟩ with
 |false =>
  rw[h1]at hs;exact pV [yF] [_] func133 ⟨hs,Z⟩
 |true =>
  rw[h1]at hs;cases h2:decide (p=o9) && decide (n=R8) with
  |true=>exact pV [yT,.av (p8 o9 R8),yF] [_,j5 34 [(stA [110,105,108])] (p8 o9 R8),Bn .neq 42 (.tmp 6) (.tmp 7) (Value.agg #[str p,str n]) (Value.agg #[str o9,str R8]) bF] func133 ⟨hs,Q8 _,yJ h2,Z⟩
  |false =>
   cases h3:decide (p=o9) && decide (n=[116]) with
   |true=>exact pV [yT,.av (p8 o9 R8),yT,.av (p8 o9 [116]),yF] [_,j5 34 [(stA [110,105,108])] (p8 o9 R8),Bn .neq 42 (.tmp 6) (.tmp 7) (Value.agg #[str p,str n]) (Value.agg #[str o9,str R8]) bT,j5 34 [(stA [116])] (p8 o9 [116]),Bn .neq 42 (.tmp 11) (.tmp 12) (Value.agg #[str p,str n]) (Value.agg #[str o9,str [116]]) bF] func133 ⟨hs,Q8 _,yJ h2,Q8 _,yJ h3,Z⟩
   |false=>exact pV [yT,.av (p8 o9 R8),yT,.av (p8 o9 [116]),yT] [_,j5 34 [(stA [110,105,108])] (p8 o9 R8),Bn .neq 42 (.tmp 6) (.tmp 7) (Value.agg #[str p,str n]) (Value.agg #[str o9,str R8]) bT,j5 34 [(stA [116])] (p8 o9 [116]),Bn .neq 42 (.tmp 11) (.tmp 12) (Value.agg #[str p,str n]) (Value.agg #[str o9,str [116]]) bT] func133 ⟨hs,Q8 _,yJ h2,Q8 _,yJ h3,Z⟩
abbrev xJ(t:Te)(i:Int):AS:=⟨stt 72 [(1,.ptr 0 0),(4,j4 i)],[some (.cells ((o8 t).map .dt))]⟩
abbrev Oz(t:Te)(b:Bool):AS:=⟨stt 72 [(2,l5 b)],[some (.cells ((o8 t).map .dt))]⟩
abbrev OA(t:Te):AS:=⟨stt 72 [],[some (.cells ((o8 t).map .dt))]⟩
noncomputable abbrev BL:Code:=M6 (O4 f143) [1,1,0,1,0,1,1,1,1,1,0,1,0,1,0,0]
theorem YT{t x:Te}{i:Nat}(hx:t.args[i]?=some x)(hl:t.args.length≤9223372036854775807)(h:j5 143 [o6 x] (l5 true)):y7 EX BL (xJ t i) .F6 (xJ t ((i+1:Nat):Int)) :=
 tW [.av (j4 t.args.length),yT,.av (.pin ((o8 x).map .dt)),yT,.av (j4 ((i+1:Nat):Int))] [] [1,4] 1 [(vi ↑t.args.length)=(vi (↑(List.map Te.enc t.args).length)),Bt .lss 3 58 61 ↑i ↑t.args.length bT,z8 (List.map Te.enc t.args) ↑i 11 (o8 x),j5 143 [(o6 x)] (l5 true),Bk .add 3 63 1 ↑i (vi (↑(i+1)))]     ⟨F9 _,D8 (Pi (by have:=(UV.1 hx).1;omega)),M5 hx,h,H6 J J (by have:=(UV.1 hx).1;omega),Z⟩
theorem b55{t:Te}{i:Nat}(hi:i=t.args.length):y7 EX BL (xJ t i) (.out 1) (OA t) :=
 tW [.av (j4 t.args.length),yF] [] [] 1 [(vi ↑t.args.length)=(vi (↑(List.map Te.enc t.args).length)),Bt .lss 3 58 61 ↑i ↑t.args.length bF]     ⟨F9 _,D8 (WF J),Z⟩
theorem b56{t x:Te}{i:Nat}(hx:t.args[i]?=some x)(h:j5 143 [o6 x] (l5 false)):y7 EX BL (xJ t i) .ret (Oz t false) :=
 tW [.av (j4 t.args.length),yT,.av (.pin ((o8 x).map .dt)),yF] [] [2] 1 [(vi ↑t.args.length)=(vi (↑(List.map Te.enc t.args).length)),Bt .lss 3 58 61 ↑i ↑t.args.length bT,z8 (List.map Te.enc t.args) ↑i 11 (o8 x),j5 143 [(o6 x)] (l5 false)]     ⟨F9 _,D8 (Pi (by have:=(UV.1 hx).1;omega)),M5 hx,h,Z⟩
theorem a7U{t:Te}(hl:t.args.length≤9223372036854775807)(h:∀x∈t.args,j5 143 [o6 x] (l5 (qU x))):∀(s:List Te) (i:Nat),t.args.drop i=s→i≤t.args.length→(qC s=true→I7 EX BL (xJ t i) (.out 1) (OA t))∧(qC s=false→I7 EX BL (xJ t i) .ret (Oz t false)):=by
 intro s
 induction s with
 |nil =>
  intro i hd hi;have e1:=congrArg List.length hd;rw[ut,List.length_nil]at e1;rw[qC];exact⟨fun _=>.stop (b55 J) (fun h=>by cases h),fun h=>by cases h⟩
 |cons x s ih =>
  intro i hd hi;have hx:t.args[i]?=some x:=by rw[←Za1,hd];rfl
  have hlt:=(UV.1 hx).1;have hd2:t.args.drop (i+1)=s:=by rw[←Za0,hd];rfl
  obtain⟨k1,k2⟩:=ih (i+1) hd2 J;have hc:=h x (q8 hx);rw[qC];cases b:qU x with
  |false =>
   rw[b]at hc;exact⟨fun e=>by simp at e,fun _=>.stop (b56 hx hc) (fun h=>by cases h)⟩
  |true =>
   rw[b]at hc;exact⟨fun e=>.more (YT hx hl hc) (k1 (by simpa using e)),fun e=>.more (YT hx hl hc) (k2 (by simpa using e))⟩
theorem a3u:∀(N:Nat) (t:Te),t.size≤N→t.Bd→j5 143 [o6 t] (l5 (qU t)):=by
 intro N
 induction N with
 |zero=>intro t h;have:=t.size_pos;omega
 |succ N ih =>
  intro t hN hb;obtain⟨hv,hs,hp,hn,hl⟩:=hb.parts;rw[b0E];have h2:=b3e hv;by_cases k1:t.kind=1
  ·rw[Ch k1];have h1:=Qg t.np t.nn hp hn;cases b2:decide (t.val=Q9) with
   |false =>
    rw[b2]at h2;rw[Bool.and_false,Bool.false_and];exact pV [yF,yT] [_,Bk .eql 3 10 1 t.kind bT] func143 ⟨h2,C9 (U5 k1),Z⟩
   |true =>
    rw[b2]at h2;cases b1:xe t.np t.nn with
    |false =>
     rw[b1]at h1;exact pV [yT,yT,yF] [_,Bk .eql 3 10 1 t.kind bT,_] func143 ⟨h2,C9 (U5 k1),h1,Z⟩
    |true =>
     rw[b1]at h1;exact pV [yT,yT,yT,.av (j4 t.args.length),.av (l5 (decide (t.args.length=0)))] [_,Bk .eql 3 10 1 t.kind bT,_,(vi ↑t.args.length)=(vi (↑(List.map Te.enc t.args).length)),Bk .eql 3 22 0 ↑t.args.length (Value.bool (decide (t.args.length=0)))] func143 ⟨h2,C9 (U5 k1),h1,F9 _,C9 (by rw[Zab];omega),Z⟩
  rw[EQ k1];by_cases k2:t.kind=2
  ·rw[Ch k2];have h3:=a3s hv hs;cases b1:decide (t.np=[]) && decide (t.nn=[]) with
   |false=>exact pV [.av (l5 (decide (t.val=Q9))),yF,yT,yF] [_,Bk .eql 3 10 1 t.kind bF,Bk .eql 3 10 2 t.kind bT,Bn .eql 42 (.tmp 28) (.tmp 29) (Value.agg #[str t.np,str t.nn]) (Value.agg #[Value.string { data:=#[]:ByteArray },Value.string { data:=#[]:ByteArray }]) bF] func143 ⟨h2,C9 (M8 k1),C9 (U5 k2),ae b1,Z⟩
   |true =>
    cases b2:t.val.lW with
    |false =>
     rw[b2]at h3;exact pV [.av (l5 (decide (t.val=Q9))),yF,yT,yT,yF] [_,Bk .eql 3 10 1 t.kind bF,Bk .eql 3 10 2 t.kind bT,Bn .eql 42 (.tmp 28) (.tmp 29) (Value.agg #[str t.np,str t.nn]) (Value.agg #[Value.string { data:=#[]:ByteArray },Value.string { data:=#[]:ByteArray }]) bT,_] func143 ⟨h2,C9 (M8 k1),C9 (U5 k2),ae b1,h3,Z⟩
    |true =>
     rw[b2]at h3;exact pV [.av (l5 (decide (t.val=Q9))),yF,yT,yT,yT,.av (j4 t.args.length),.av (l5 (decide (t.args.length=0)))] [_,Bk .eql 3 10 1 t.kind bF,Bk .eql 3 10 2 t.kind bT,Bn .eql 42 (.tmp 28) (.tmp 29) (Value.agg #[str t.np,str t.nn]) (Value.agg #[Value.string { data:=#[]:ByteArray },Value.string { data:=#[]:ByteArray }]) bT,_,(vi ↑t.args.length)=(vi (↑(List.map Te.enc t.args).length)),Bk .eql 3 39 0 ↑t.args.length (Value.bool (decide (t.args.length=0)))] func143 ⟨h2,C9 (M8 k1),C9 (U5 k2),ae b1,h3,F9 _,C9 (by rw[Zab];omega),Z⟩
  rw[EQ k2];by_cases k3:t.kind=3
  ·rw[Ch k3];have h1:=Un t.np t.nn hp hn;cases b2:decide (t.val=Q9) with
   |false =>
    rw[b2]at h2;rw[Bool.and_false,Bool.false_and,Bool.false_and];exact pV [yF,yF,yF,yT] [_,Bk .eql 3 10 1 t.kind bF,Bk .eql 3 10 2 t.kind bF,Bk .eql 3 10 3 t.kind bT] func143 ⟨h2,C9 (M8 k1),C9 (M8 k2),C9 (U5 k3),Z⟩
   |true =>
    rw[b2]at h2;cases b1:R6 ⟨t.np,t.nn⟩ with
    |false =>
     rw[b1]at h1;exact pV [yT,yF,yF,yT,yF] [_,Bk .eql 3 10 1 t.kind bF,Bk .eql 3 10 2 t.kind bF,Bk .eql 3 10 3 t.kind bT,_] func143 ⟨h2,C9 (M8 k1),C9 (M8 k2),C9 (U5 k3),h1,Z⟩
    |true =>
     rw[b1]at h1;cases b3:decide (t.args.length≤8) with
     |false =>
      have e:=ZaF b3;exact pV [yT,yF,yF,yT,yT,.av (j4 t.args.length),yT] [_,Bk .eql 3 10 1 t.kind bF,Bk .eql 3 10 2 t.kind bF,Bk .eql 3 10 3 t.kind bT,_,(vi ↑t.args.length)=(vi (↑(List.map Te.enc t.args).length)),Bk .gtr 3 55 8 ↑t.args.length bT] func143 ⟨h2,C9 (M8 k1),C9 (M8 k2),C9 (U5 k3),h1,F9 _,K4 (Pi J),Z⟩
     |true =>
      have e:=bv b3;obtain⟨l1,l2⟩:=a7U hl (fun x hx=>ih x (by have:=Te.ym hx;omega) (hb.kids hx)) t.args 0 rfl (Ci _);cases b4:qC t.args with
      |false =>
       have ht:=(l2 b4).I8;exact pW [yT,yF,yF,yT,yT,.av (j4 t.args.length),yF] [.inv [1,4] 1 (.ret) (Oz t false)] [_,Bk .eql 3 10 1 t.kind bF,Bk .eql 3 10 2 t.kind bF,Bk .eql 3 10 3 t.kind bT,_,(vi ↑t.args.length)=(vi (↑(List.map Te.enc t.args).length)),Bk .gtr 3 55 8 ↑t.args.length bF,_] func143 ⟨h2,C9 (M8 k1),C9 (M8 k2),C9 (U5 k3),h1,F9 _,K4 (WF J),ht,Z⟩
      |true =>
       have ht:=(l1 b4).I8;exact pW [yT,yF,yF,yT,yT,.av (j4 t.args.length),yF] [.inv [1,4] 1 (.out 1) (OA t)] [_,Bk .eql 3 10 1 t.kind bF,Bk .eql 3 10 2 t.kind bF,Bk .eql 3 10 3 t.kind bT,_,(vi ↑t.args.length)=(vi (↑(List.map Te.enc t.args).length)),Bk .gtr 3 55 8 ↑t.args.length bF,_] func143 ⟨h2,C9 (M8 k1),C9 (M8 k2),C9 (U5 k3),h1,F9 _,K4 (WF J),ht,Z⟩
  ·rw[EQ k3];exact pV [.av (l5 (decide (t.val=Q9))),yF,yF,yF] [_,Bk .eql 3 10 1 t.kind bF,Bk .eql 3 10 2 t.kind bF,Bk .eql 3 10 3 t.kind bF] func143 ⟨h2,C9 (M8 k1),C9 (M8 k2),C9 (M8 k3),Z⟩
theorem a3v{t:Te}(hb:t.Bd):j5 114 [o6 t] (l5 t.valid):=by
 have h1:=a5e hb;have h2:=a5f hb;have h3:=a3u _ t (PP _) hb;unfold Te.valid;cases b1:decide (t.gz≤3000) with
 |false =>
  have e:=ZaF b1;exact pV [.av (j4 ((min t.gz 3001:Nat):Int)),yF] [_,Bk .leq 3 4 3000 (↑(min t.gz 3001)) bF] func114 ⟨h1,fT (WF J),Z⟩
 |true =>
  have e:=bv b1;cases b2:decide (t.dep≤200) with
  |false =>
   have e2:=ZaF b2;exact pV [.av (j4 ((min t.gz 3001:Nat):Int)),yT,.av (j4 ((min t.dep 201:Nat):Int)),yF] [_,Bk .leq 3 4 3000 (↑(min t.gz 3001)) bT,_,Bk .leq 3 8 200 (↑(min t.dep 201)) bF] func114 ⟨h1,fT (Pi J),h2,fT (WF J),Z⟩
  |true =>
   have e2:=bv b2;exact pV [.av (j4 ((min t.gz 3001:Nat):Int)),yT,.av (j4 ((min t.dep 201:Nat):Int)),yT,.av (l5 (qU t))] [_,Bk .leq 3 4 3000 (↑(min t.gz 3001)) bT,_,Bk .leq 3 8 200 (↑(min t.dep 201)) bT,_] func114 ⟨h1,fT (Pi J),h2,fT (Pi J),h3,Z⟩
end Go.Proofs.YtbpmpdadppamgaaGreatDoor
namespace Go.Proofs.YtbpmpdadppamgaaGreatDoor
open Go.Proofs.Tryz
open Go.RowKit
theorem j5.law{f:FuncId}{args:List AV}(h:j5 f args (l5 true)){ok:Nat→Prop}{W:World}{vs:List Value}(hG:Gx W)(hv:RL (M0 ok) W args vs):Calls prog f vs.toArray W fun e W'=>e=.returned (.bool true)∧Below W.heap.size W W' :=
 (h.2 ok W vs hG hv).mono fun e W' ⟨v,he,hb,hr⟩=>⟨by rw[he,Rd.Q7 hr],hb⟩
abbrev Says(f:FuncId)(args:Array Value)(W:World):Prop:=Calls prog f args W fun e W'=>e=.returned (.bool true)∧Below W.heap.size W W'
abbrev YU(w:lw):List Dt:=[.val (str w)]
abbrev I5:List (lw×Nat):=[([105,102],3),([101,113,117,97,108],2),([99,111,110,115],2),([99,97,114],1),([99,100,114],1),([99,111,110,115,112],1),([115,121,109,98,111,108,112],1),([115,116,114,105,110,103,112],1),([114,97,116,105,111,110,97,108,112],1),([105,110,116,101,103,101,114,112],1),([98,105,110,97,114,121,45,43],2),([98,105,110,97,114,121,45,42],2),([117,110,97,114,121,45,45],1),([117,110,97,114,121,45,47],1),([60],2),([110,117,109,101,114,97,116,111,114],1),([100,101,110,111,109,105,110,97,116,111,114],1),([102,108,111,111,114],1),([115,121,109,98,111,108,45,110,97,109,101],1),([115,121,109,98,111,108,45,112,97,99,107,97,103,101,45,110,97,109,101],1),([105,110,116,101,114,110],2),([115,116,114,105,110,103,45,97,112,112,101,110,100],2),([115,116,114,105,110,103,45,108,101,110,103,116,104],1),([115,116,114,105,110,103,45,98,121,116,101],2),([98,121,116,101,45,115,116,114,105,110,103],1)]
abbrev gB(x:lw×Nat):List Dt:=[.val (str o9),.val (str x.1)]
abbrev aT(x:lw×Nat):List Dt:=[.val (str x.1),.val (.int .i64 x.2)]
theorem Ut{α:Type}{l:List α}{i:Nat}(h:l.drop i=[]):l.length≤i:=by
 have:=congrArg List.length h;rw[ut,List.length_nil]at this;omega
theorem Sa{α:Type}{l r:List α}{i:Nat}{b:α}(h:l.drop i=b::r):l[i]?=some b∧l.drop (i+1)=r∧i < l.length:=by
 have h1:(l.drop i)[0]?=some b:=by rw[h];rfl
 rw[List.getElem?_drop,Nat.add_zero]at h1;exact⟨h1,by rw[←Za0,h];rfl,(UV.1 h1).1⟩
theorem vR(t:lw):j5 80 [stA t] (l9 (.txt t)) :=
 ⟨Q3 func80 rfl (by kernel_rfl),fun ok w vs ht hv=>by
  obtain rfl:=hv.eB;exact (a2U w t).mono fun _ _ h=>Y9.pure (r:=kR t) rfl h⟩
abbrev K5(ts:List Tr):AV:=.dt (.row (ts.map fun t=>A9 t.ob))
theorem wC{a b:lw}(ha:a.length≤1100000)(hb:b.length≤1100000):j5 77 [stA a,stA b] (l9 (.num (Rat.divInt (j6.x9 a) (j6.x9 b)))) :=
 ⟨Q3 func77 rfl (by kernel_rfl),fun ok w vs ht hv=>by
  obtain⟨u,us,rfl,h1,h2⟩:=hv;obtain rfl:=RL.eB h2;rw[Rd.Q7 h1];exact (PV a b w ha hb).mono fun _ _ h=>Y9.pure (r:=U4 (Rat.divInt (j6.x9 a) (j6.x9 b))) rfl h⟩
theorem Uu(n:Int)(h0:-9223372036854775808≤n)(h1:n≤9223372036854775807):j5 78 [j4 n] (stA (Lib.itoa n)) :=
 ⟨Q3 func78 rfl (by kernel_rfl),fun ok w vs ht hv=>by
  obtain rfl:=hv.eB;refine (OV n w ht.1 h0 h1).mono ?_;rintro e w' ⟨rfl,h2⟩;exact⟨_,rfl,h2,.val _⟩⟩
theorem b0H(l:lw):j5 57 [stA l] (p8 I4 l):=pV [] [] func57 trivial
theorem a7V{k:Nat}{s:lw}(h:yB[k]?=some s):z8 (yB.map YU) (k:Int) 1 [.val (str s)]:=⟨Int.natCast_nonneg _,by
 rw[Int.toNat_natCast,bi,h];rfl,rfl⟩
theorem nJ{n:Int}{k:Nat}{s:lw}(hk:n % 13=k)(h9:k < 9)(hs:yB[k]?=some s):j5 79 [j4 n] (p8 I4 s) :=
 pV [.no,.no,.av (j4 k),.no,yT,.av (.pin [stA s]),.av (p8 I4 s)] [j5 54 [(j4 n),(j4 13)] (j4 ↑k),Bt .lss 3 12 14 ↑k 9 bT,z8 (yB.map YU) (k:Int) 1 [.val (str s)],j5 57 [(stA s)] (p8 I4 s)] func79 ⟨(Z0 n 13 O O).val (by rw[hk]),D8 (Pi J),a7V hs,b0H s,Z⟩
theorem b3f(n:Int):j5 79 [j4 n] (p8 (bN n).1 (bN n).2):=by
 obtain⟨k,hk,hlt⟩:∃k:Nat,n % 13=k∧k < 13:=⟨(n % 13).toNat,J,J⟩;have e:bN n=vZ.getD k (I4,[]):=by unfold bN;rw[hk];rfl
 rw[e]
 match k,hlt,hk with
 |0,_,hk=>exact nJ hk O rfl
 |1,_,hk=>exact nJ hk O rfl
 |2,_,hk=>exact nJ hk O rfl
 |3,_,hk=>exact nJ hk O rfl
 |4,_,hk=>exact nJ hk O rfl
 |5,_,hk=>exact nJ hk O rfl
 |6,_,hk=>exact nJ hk O rfl
 |7,_,hk=>exact nJ hk O rfl
 |8,_,hk=>exact nJ hk O rfl
 |9,_,hk=>exact pV (.no::.no::.av (j4 9)::nK 4 [.av (p8 o9 R8)]) [j5 54 [(j4 n),(j4 13)] (j4 9),j5 34 [(stA [110,105,108])] (p8 o9 R8)] func79 ⟨(Z0 n 13 O O).val (by rw[hk];rfl),Q8 _,Z⟩
 |10,_,hk=>exact pV (.no::.no::.av (j4 10)::nK 7 [.av (p8 o9 [116])]) [j5 54 [(j4 n),(j4 13)] (j4 10),j5 34 [(stA [116])] (p8 o9 [116])] func79 ⟨(Z0 n 13 O O).val (by rw[hk];rfl),Q8 _,Z⟩
 |11,_,hk=>exact pV (.no::.no::.av (j4 11)::nK 10 [.av (p8 o9 [99,97,114])]) [j5 54 [(j4 n),(j4 13)] (j4 11),j5 34 [(stA [99,97,114])] (p8 o9 [99,97,114])] func79 ⟨(Z0 n 13 O O).val (by rw[hk];rfl),Q8 _,Z⟩
 |12,_,hk=>exact pV (.no::.no::.av (j4 12)::nK 10 [.av (p8 o9 [113,117,111,116,101])]) [j5 54 [(j4 n),(j4 13)] (j4 12),j5 34 [(stA [113,117,111,116,101])] (p8 o9 [113,117,111,116,101])] func79 ⟨(Z0 n 13 O O).val (by rw[hk];rfl),Q8 _,Z⟩
theorem KP{r x:Raw}{i:Nat}(h:r.l[i]?=some x):j5 82 [F5 r,j4 i] (F5 x) :=
 pV [.av (j4 r.l.length),yT,.av (.pin ((encR x).map .dt))] [(vi ↑r.l.length)=(vi (↑(List.map Raw.enc r.l).length)),Bt .lss 3 5 8 ↑i ↑r.l.length bT,z8 (List.map Raw.enc r.l) ↑i 4 (encR x)] func82 ⟨O1 _,D8 (Pi (by have:=(UV.1 h).1;omega)),kI h,Z⟩
theorem JM{r:Raw}{i:Nat}(h:r.l.length≤i):j5 82 [F5 r,j4 i] (F5 ⟨0,0,[],[]⟩) :=
 pV [.av (j4 r.l.length),yF] [(vi ↑r.l.length)=(vi (↑(List.map Raw.enc r.l).length)),Bt .lss 3 5 8 ↑i ↑r.l.length bF] func82 ⟨O1 _,D8 (WF J),Z⟩
def prt(r:Raw)(i:Nat):Raw:=r.l.getD i ⟨0,0,[],[]⟩
theorem XI(r:Raw)(i:Nat):j5 82 [F5 r,j4 i] (F5 (prt r i)):=by
 unfold prt;rw[AC];rcases Za5 i r.l.length with h | h
 ·rw[ww h];exact KP (ww h)
 ·rw[Za4 h];exact JM h
theorem VS(r:Raw)(i:Nat):V8 (prt r i)=(r.l.map V8).getD i kM:=by
 unfold prt;rw[AC,AC,bi];cases r.l[i]? with
 |some x=>rfl
 |none=>rfl
theorem yV{ts:List Tr}(h:ts.length≤1000000):j5 83 [K5 ts] (l9 (Tr.list ts)) :=
 ⟨Q3 func83 rfl (by kernel_rfl),fun ok w vs ht hv=>by
  obtain⟨v,us,rfl,h1,h2⟩:=hv;obtain rfl:us=[]:=h2;have h1':Rd ok w v (.row (ts.map fun t=>A9 t.ob)):=h1;obtain⟨A,n,c,rfl,hn⟩:=Rd.slice h1';have e:(ts.map fun t=>A9 t.ob)=(ts.map Tr.ob).map Ob.enc:=by
   rw[List.map_map];exact List.map_congr_left fun t _=>(ED t.ob).symm
  rw[e]at h1';have hl:=h1'.len;rw[Cc,Cc]at hl;have hL:=(a3a ok (ts.map Tr.ob) A n c w h1' J).mono fun _ _ h=>kH.pure h
  rw[←Tr.Tt]at hL;exact hL⟩
theorem XJ{r:Raw}(hk:r.kind % 8=0):j5 41 [F5 r] (l9 (.num ((r.n % 2001 - 1000:Int):Rat))):=pV [.av (j4 0),.no,.av (j4 (r.n % 2001)),.av (j4 (r.n % 2001 - 1000)),.av (l9 (.num ((r.n % 2001 - 1000:Int):Rat)))] [j5 54 [(j4 r.kind),(j4 8)] (j4 0),j5 54 [(j4 r.n),(j4 2001)] (j4 (r.n % 2001)),Bk .sub 3 13 1000 (r.n % 2001) (vi (r.n % 2001 - 1000)),j5 55 [(j4 (r.n % 2001 - 1000))] (o7 ((Tr.num ↑(r.n % 2001 - 1000)).ob))] func41 ⟨(Z0 r.kind 8 O O).val (by rw[hk]),Z0 _ _ O O,bL rfl J J,wy _ J J,Z⟩
theorem b3g{r:Raw}(hk:r.kind % 8=1):j5 41 [F5 r] (l9 (.num ((r.n % 2001 - 1000:Int):Rat))):=pV [.av (j4 1),.no,.no,.av (j4 (r.n % 2001)),.av (j4 (r.n % 2001 - 1000)),.av (l9 (.num ((r.n % 2001 - 1000:Int):Rat)))] [j5 54 [(j4 r.kind),(j4 8)] (j4 1),j5 54 [(j4 r.n),(j4 2001)] (j4 (r.n % 2001)),Bk .sub 3 13 1000 (r.n % 2001) (vi (r.n % 2001 - 1000)),j5 55 [(j4 (r.n % 2001 - 1000))] (o7 ((Tr.num ↑(r.n % 2001 - 1000)).ob))] func41 ⟨(Z0 r.kind 8 O O).val (by rw[hk]),Z0 _ _ O O,bL rfl J J,wy _ J J,Z⟩
theorem b3h{r:Raw}(hk:r.kind % 8=3):j5 41 [F5 r] (l9 (.sym (bN r.n).1 (bN r.n).2)):=pV (.av (j4 3)::nK 4 [.av (p8 (bN r.n).1 (bN r.n).2),.av (l9 (.sym (bN r.n).1 (bN r.n).2))]) [j5 54 [(j4 r.kind),(j4 8)] (j4 3),j5 79 [(j4 r.n)] (p8 (bN r.n).fst (bN r.n).snd),j5 76 [(p8 (bN r.n).fst (bN r.n).snd)] (o7 ((Tr.sym (bN r.n).fst (bN r.n).snd).ob))] func41 ⟨(Z0 r.kind 8 O O).val (by rw[hk]),b3f r.n,zo _ _,Z⟩
theorem b3i{r:Raw}(hk:r.kind % 8=4):j5 41 [F5 r] (l9 (.txt r.s)):=pV (.av (j4 4)::nK 5 [.av (l9 (.txt r.s))]) [j5 54 [(j4 r.kind),(j4 8)] (j4 4),j5 80 [(stA r.s)] (l9 (Tr.txt r.s))] func41 ⟨(Z0 r.kind 8 O O).val (by rw[hk]),vR r.s,Z⟩
theorem b57{r:Raw}{x y:lw}{q:Rat}(hk:r.kind % 8=2)(hs:r.s.length≤12)(hx:j5 78 [j4 (r.n % 41 - 20)] (stA x))(hy:j5 78 [j4 (1+r.s.length)] (stA y))(hr:j5 77 [stA x,stA y] (l9 (.num q))):j5 41 [F5 r] (l9 (.num q)) :=
 pV [.av (j4 2),.no,.no,.no,.av (j4 (r.n % 41)),.av (j4 (r.n % 41 - 20)),.av (stA x),.av (j4 r.s.length),.av (j4 (1+r.s.length)),.av (stA y),.av (l9 (.num q))] [j5 54 [(j4 r.kind),(j4 8)] (j4 2),j5 54 [(j4 r.n),(j4 41)] (j4 (r.n % 41)),Bk .sub 3 20 20 (r.n % 41) (vi (r.n % 41 - 20)),_,(vi ↑r.s.length)=(vi (↑r.s.length)),Bn .add 3 (.const (vi 1)) (.tmp 25) (vi 1) (vi ↑r.s.length) (vi (1+↑r.s.length)),_,_] func41 ⟨(Z0 r.kind 8 O O).val (by rw[hk]),Z0 _ _ O O,bL rfl J J,hx,Eb _,H6 rfl J J,hy,hr,Z⟩
theorem b3j{r:Raw}(hk:r.kind % 8=2)(hs:r.s.length≤12):j5 41 [F5 r] (l9 (.num (Rat.divInt (r.n % 41 - 20) (1+r.s.length)))):=by
 have h:=wC (a:=Lib.itoa (r.n % 41 - 20)) (b:=Lib.itoa (1+r.s.length:Int)) (pu (iP _ (k:=2) O J) O) (pu (iP _ (k:=2) O J) O);rw[j6.M7,j6.M7]at h;exact b57 hk hs (Uu _ J J) (Uu _ J J) h
theorem b3k{r:Raw}{a b:Tr}(hk:r.kind % 8=5)(ha:j5 41 [F5 (prt r 0)] (l9 a))(hb:j5 41 [F5 (prt r 1)] (l9 b)):j5 41 [F5 r] (l9 (.cons a b)) :=
 pV (.av (j4 5)::nK 6 [.av (F5 (prt r 0)),.av (l9 a),.av (F5 (prt r 1)),.av (l9 b),.av (l9 (.cons a b))]) [j5 54 [(j4 r.kind),(j4 8)] (j4 5),j5 82 [(F5 r),(j4 0)] (.agg [(j4 ((prt r 0).kind)),(j4 ((prt r 0).n)),(stA (prt r 0).s),(.dt (.row (List.map Raw.enc (prt r 0).l)))]),_,j5 82 [(F5 r),(j4 1)] (.agg [(j4 ((prt r 1).kind)),(j4 ((prt r 1).n)),(stA (prt r 1).s),(.dt (.row (List.map Raw.enc (prt r 1).l)))]),_,j5 81 [(o7 a.ob),(o7 b.ob)] (l9 (a.cons b))] func41 ⟨(Z0 r.kind 8 O O).val (by rw[hk]),XI r 0,ha,XI r 1,hb,DC a.ob b.ob,Z⟩
abbrev F3(ts:List Tr):aa0:=ts.map fun t=>A9 t.ob
abbrev uF(r:Raw):AS:=⟨stt 67 [(1,.ptr 0 0),(2,.ptr 1 0),(3,.nil),(4,j4 0)],[some (.cells [j4 r.kind,j4 r.n,stA r.s,.dt (.row (r.l.map Raw.enc))]),some (.cells [j4 0,stA [],stA [],stA [],stA [],stA [],.nil])]⟩
abbrev lC(r:Raw)(es:aa0)(n:Nat)(i:Int):AS:=⟨stt 67 [(1,.ptr 0 0),(2,.ptr 1 0),(3,.own 2 n),(4,j4 i)],[some (.cells [j4 r.kind,j4 r.n,stA r.s,.dt (.row (r.l.map Raw.enc))]),some (.cells [j4 0,stA [],stA [],stA [],stA [],stA [],.nil]),some (.buf 45 7 es)]⟩
noncomputable abbrev uG:Code:=M6 (O4 f41) [1,1,1,0,1,0,0]
theorem Uv(t:Tr):L8 7 [A9 t.ob]:=by
 intro x hx;rw[Cf]at hx;subst hx;refine⟨rfl,fun d hd=>?_⟩;simp only[Za3,Zat,Zb4]at hd;rcases hd with rfl | rfl | rfl | rfl | rfl | rfl | rfl <;> rfl
theorem oqA{r x:Raw}{t:Tr}(hx:r.l[0]?=some x)(hl:r.l.length≤8)(ht:j5 41 [F5 x] (l9 t)):y7 EX uG (uF r) .F6 (lC r [A9 t.ob] 1 ((1:Nat):Int)) :=
 tW [.av (j4 r.l.length),yT,.av (.pin ((encR x).map .dt)),.av (l9 t),.av (.un),.av (j4 ((1:Nat):Int))] [] [1,2,3,4] 3 [Value.int .i64 (r.l.length:Int)=Value.int .i64 ((r.l.map Raw.enc).length:Int),bg prog .lss 3 (.tmp 49) (.tmp 52) (.int .i64 0) (.int .i64 (r.l.length:Int)) (.bool true),z8 (r.l.map Raw.enc) 0 4 (encR x),j5 41 [F5 x] (l9 t),P7 112 1,L8 7 [A9 t.ob],bg prog .add 3 (.tmp 54) (.const (.int .i64 1)) (.int .i64 0) (.int .i64 1) (.int .i64 ((1:Nat):Int))]     ⟨O1 _,D8 (Pi (by have:=(UV.1 hx).1;omega)),kI hx,ht,⟨O,O⟩,Uv t,H6 J J J,Z⟩
theorem oqE{r:Raw}:r.l=[]→y7 EX uG (uF r) (.out 1) (uF r):=fun h =>
 tW [.av (j4 r.l.length),yF] [] [1,2,3,4] 2 [(vi ↑r.l.length)=(vi (↑(List.map Raw.enc r.l).length)),Bt .lss 3 49 52 0 ↑r.l.length bF]     ⟨O1 _,D8 (WF (by rw[h];decide)),Z⟩
theorem oqN{r x:Raw}{t:Tr}{es:aa0}{n i:Nat}(hx:r.l[i]?=some x)(hl:r.l.length≤8)(hn:es.length=n)(hi:n≤8)(ht:j5 41 [F5 x] (l9 t)):y7 EX uG (lC r es n i) .F6 (lC r (es++[A9 t.ob]) (es++[A9 t.ob]).length ((i+1:Nat):Int)) :=
 tW [.av (j4 r.l.length),yT,.av (.pin ((encR x).map .dt)),.av (l9 t),.av (.un),.av (j4 ((i+1:Nat):Int))] [] [1,2,3,4] 3 [Value.int .i64 (r.l.length:Int)=Value.int .i64 ((r.l.map Raw.enc).length:Int),bg prog .lss 3 (.tmp 49) (.tmp 52) (.int .i64 (i:Int)) (.int .i64 (r.l.length:Int)) (.bool true),z8 (r.l.map Raw.enc) (i:Int) 4 (encR x),j5 41 [F5 x] (l9 t),es.length=n,P7 112 (es++[A9 t.ob]).length,L8 7 [A9 t.ob],bg prog .add 3 (.tmp 54) (.const (.int .i64 1)) (.int .i64 (i:Int)) (.int .i64 1) (.int .i64 ((i+1:Nat):Int))]     ⟨O1 _,D8 (Pi (by have:=(UV.1 hx).1;omega)),kI hx,ht,hn,⟨by rw[lm,hn];exact pu (show n+1≤9 by omega) O,by rw[lm,hn];exact pu (Zas _ (show n+1≤9 by omega)) O⟩,Uv t,H6 J J (by have:=(UV.1 hx).1;omega),Z⟩
theorem oqF{r:Raw}{es:aa0}{n i:Nat}(hi:r.l.length≤i):y7 EX uG (lC r es n i) (.out 1) (lC r es n i) :=
 tW [.av (j4 r.l.length),yF] [] [1,2,3,4] 3 [(vi ↑r.l.length)=(vi (↑(List.map Raw.enc r.l).length)),Bt .lss 3 49 52 ↑i ↑r.l.length bF]     ⟨O1 _,D8 (WF J),Z⟩
theorem b3l{r:Raw}(h8:r.l.length≤8)(hf:∀x∈r.l,j5 41 [F5 x] (l9 (V8 x))):∀(s:List Raw) (i n:Nat) (es:aa0),r.l.drop i=s→i≤r.l.length→es.length=n→n+s.length≤8→∃j:Nat,I7 EX uG (lC r es n i) (.out 1) (lC r (es++F3 (s.map V8)) (es++F3 (s.map V8)).length j):=by
 intro s
 induction s with
 |nil =>
  intro i n es hd hi hn _;have:=Ut hd;refine⟨i,?_⟩;simp only[List.map_nil,F3,ZaB];rw[hn];exact .stop (oqF this) (fun h=>by cases h)
 |cons x s ih =>
  intro i n es hd hi hn h9;obtain⟨hx,hd',hlt⟩:=Sa hd;rw[yM]at h9;obtain⟨j,hj⟩:=ih (i+1) (es++[A9 (V8 x).ob]).length (es++[A9 (V8 x).ob]) hd' J rfl (by rw[lm,hn];show n+1+_≤8;omega);refine⟨j,.more (oqN hx h8 hn J (hf x (q8 hx))) ?_⟩;have e:es++[A9 (V8 x).ob]++F3 (s.map V8)=es++F3 ((x::s).map V8):=by
   rw[Zaf];rfl
  rw[e]at hj;exact hj
theorem b0I{r:Raw}{ts:List Tr}(hk:r.kind % 8=6)(hr:r.l=[])(hts:ts=[]):j5 41 [F5 r] (l9 (Tr.list ts)):=by
 subst hts;have hl:=(I7.stop (oqE hr) (fun h=>by cases h)).I8;have h2:=yV (ts:=[]) (Ci _);exact pW (.av (j4 6)::nK 6 [.av (l9 (Tr.list []))]) [.inv [1,2,3,4] 2 (.out 1) (uF r)] [j5 54 [j4 r.kind,j4 8] (j4 6),_,_] func41 ⟨(Z0 r.kind 8 O O).val (by rw[hk]),hl,h2,Z⟩
theorem b3m{r:Raw}{ts:List Tr}{j:Nat}(hk:r.kind % 8=6)(hl:y7 EX (.loop uG) (uF r) (.out 1) (lC r (F3 ts) (F3 ts).length j))(h8:ts.length≤8):j5 41 [F5 r] (l9 (Tr.list ts)) :=
 pW (.av (j4 6)::nK 6 [.av (l9 (Tr.list ts))]) [.inv [1,2,3,4] 3 (.out 1) (lC r (F3 ts) (F3 ts).length j)] [j5 54 [j4 r.kind,j4 8] (j4 6),_,j5 83 [K5 ts] (l9 (Tr.list ts)),(F3 ts).length=(F3 ts).length] func41 ⟨(Z0 r.kind 8 O O).val (by rw[hk]),hl,yV J,rfl,Z⟩
theorem b0J{r:Raw}{ts:List Tr}(hk:r.kind % 8=7)(hr:r.l=[])(hts:ts=[]):j5 41 [F5 r] (l9 (Tr.list ts)):=by
 subst hts;have hl:=(I7.stop (oqE hr) (fun h=>by cases h)).I8;have h2:=yV (ts:=[]) (Ci _);exact pW (.av (j4 7)::nK 6 [.av (l9 (Tr.list []))]) [.inv [1,2,3,4] 2 (.out 1) (uF r)] [j5 54 [j4 r.kind,j4 8] (j4 7),_,_] func41 ⟨(Z0 r.kind 8 O O).val (by rw[hk]),hl,h2,Z⟩
theorem b3n{r:Raw}{ts:List Tr}{j:Nat}(hk:r.kind % 8=7)(hl:y7 EX (.loop uG) (uF r) (.out 1) (lC r (F3 ts) (F3 ts).length j))(h8:ts.length≤8):j5 41 [F5 r] (l9 (Tr.list ts)) :=
 pW (.av (j4 7)::nK 6 [.av (l9 (Tr.list ts))]) [.inv [1,2,3,4] 3 (.out 1) (lC r (F3 ts) (F3 ts).length j)] [j5 54 [j4 r.kind,j4 8] (j4 7),_,j5 83 [K5 ts] (l9 (Tr.list ts)),(F3 ts).length=(F3 ts).length] func41 ⟨(Z0 r.kind 8 O O).val (by rw[hk]),hl,yV J,rfl,Z⟩
theorem a7W{r:Raw}(hk:r.kind % 8=6∨r.kind % 8=7)(h8:r.l.length≤8)(hf:∀x∈r.l,j5 41 [F5 x] (l9 (V8 x))):j5 41 [F5 r] (l9 (Tr.list (r.l.map V8))):=by
 have go:=b3l h8 hf
 match hr:r.l,h8,hf,go with
 |[],_,_,_ =>
  rcases hk with hk | hk
  ·exact b0I hk hr rfl
  ·exact b0J hk hr rfl
 |x::s,h8,hf,go =>
  rw[yM]at h8;obtain⟨j,hj⟩:=go s 1 1 [A9 (V8 x).ob] rfl I rfl J;have h1:=oqA (r:=r) (x:=x) (by rw[hr];rfl) (by rw[hr,yM];omega) (hf x (NE ..));have hl:=(I7.more h1 hj).I8;have e:[A9 (V8 x).ob]++F3 (s.map V8)=F3 ((x::s).map V8):=rfl;rw[e]at hl;have l8:((x::s).map V8).length≤8:=by rw[Cc,yM];omega
  rcases hk with hk | hk
  ·exact b3m hk hl l8
  ·exact b3n hk hl l8
theorem VT:∀(N:Nat) (r:Raw),r.size≤N→Fit r→j5 41 [F5 r] (l9 (V8 r)):=by
 intro N
 induction N with
 |zero=>intro r h;have:=r.size_pos;omega
 |succ N ih =>
  intro r hN hf;have kid:∀x∈r.l,j5 41 [F5 x] (l9 (V8 x)):=fun x hx=>ih x (by have:=Raw.nE hx;omega) (hf.kids hx)
  have hp:∀i,j5 41 [F5 (prt r i)] (l9 (V8 (prt r i))):=fun i=>by
   unfold prt;rw[AC];rcases Za5 i r.l.length with h | h
   ·rw[ww h];exact kid _ (Zaj h)
   ·rw[Za4 h];exact XJ (r:=⟨0,0,[],[]⟩) rfl
  rw[DU];unfold mkK;have hb:=Int.emod_nonneg r.kind (show (8:Int)≠0 by decide);have hb':=Int.emod_lt_of_pos r.kind (show (0:Int) < 8 by decide);split
  ·rename_i h;rcases h with h | h
   ·exact XJ h
   ·exact b3g h
  ·split
   ·rename_i h;exact b3j h hf.s
   ·split
    ·rename_i h;exact b3h h
    ·split
     ·rename_i h;exact b3i h
     ·split
      ·rename_i h;rw[←VS,←VS];exact b3k h (hp 0) (hp 1)
      ·exact a7W J (by have:=hf.l;omega) kid
theorem aW:j5 115 [] (.dt (.row (I5.map aT))):=pV [] [] func115 trivial
theorem zu:j5 94 [p8 o9 [105,102]] (.l7 [j4 3,l5 true]):=pV [.no,.av (.dt (.row (I5.map aT)))] [_] func94 ⟨aW,Z⟩
theorem KQ:j5 94 [p8 o9 [101,113,117,97,108]] (.l7 [j4 2,l5 true]):=pV [.no,.av (.dt (.row (I5.map aT)))] [_] func94 ⟨aW,Z⟩
theorem KR:j5 94 [p8 o9 [99,111,110,115]] (.l7 [j4 2,l5 true]):=pV [.no,.av (.dt (.row (I5.map aT)))] [_] func94 ⟨aW,Z⟩
theorem KS:j5 94 [p8 o9 [99,97,114]] (.l7 [j4 1,l5 true]):=pV [.no,.av (.dt (.row (I5.map aT)))] [_] func94 ⟨aW,Z⟩
theorem KT:j5 94 [p8 o9 [99,100,114]] (.l7 [j4 1,l5 true]):=pV [.no,.av (.dt (.row (I5.map aT)))] [_] func94 ⟨aW,Z⟩
theorem KU:j5 94 [p8 o9 [99,111,110,115,112]] (.l7 [j4 1,l5 true]):=pV [.no,.av (.dt (.row (I5.map aT)))] [_] func94 ⟨aW,Z⟩
theorem KV:j5 94 [p8 o9 [115,121,109,98,111,108,112]] (.l7 [j4 1,l5 true]):=pV [.no,.av (.dt (.row (I5.map aT)))] [_] func94 ⟨aW,Z⟩
theorem KW:j5 94 [p8 o9 [115,116,114,105,110,103,112]] (.l7 [j4 1,l5 true]):=pV [.no,.av (.dt (.row (I5.map aT)))] [_] func94 ⟨aW,Z⟩
theorem KX:j5 94 [p8 o9 [114,97,116,105,111,110,97,108,112]] (.l7 [j4 1,l5 true]):=pV [.no,.av (.dt (.row (I5.map aT)))] [_] func94 ⟨aW,Z⟩
theorem KY:j5 94 [p8 o9 [105,110,116,101,103,101,114,112]] (.l7 [j4 1,l5 true]):=pV [.no,.av (.dt (.row (I5.map aT)))] [_] func94 ⟨aW,Z⟩
theorem JN:j5 94 [p8 o9 [98,105,110,97,114,121,45,43]] (.l7 [j4 2,l5 true]):=pV [.no,.av (.dt (.row (I5.map aT)))] [_] func94 ⟨aW,Z⟩
theorem JO:j5 94 [p8 o9 [98,105,110,97,114,121,45,42]] (.l7 [j4 2,l5 true]):=pV [.no,.av (.dt (.row (I5.map aT)))] [_] func94 ⟨aW,Z⟩
theorem JP:j5 94 [p8 o9 [117,110,97,114,121,45,45]] (.l7 [j4 1,l5 true]):=pV [.no,.av (.dt (.row (I5.map aT)))] [_] func94 ⟨aW,Z⟩
theorem JQ:j5 94 [p8 o9 [117,110,97,114,121,45,47]] (.l7 [j4 1,l5 true]):=pV [.no,.av (.dt (.row (I5.map aT)))] [_] func94 ⟨aW,Z⟩
theorem JR:j5 94 [p8 o9 [60]] (.l7 [j4 2,l5 true]):=pV [.no,.av (.dt (.row (I5.map aT)))] [_] func94 ⟨aW,Z⟩
theorem JS:j5 94 [p8 o9 [110,117,109,101,114,97,116,111,114]] (.l7 [j4 1,l5 true]):=pV [.no,.av (.dt (.row (I5.map aT)))] [_] func94 ⟨aW,Z⟩
theorem JU:j5 94 [p8 o9 [100,101,110,111,109,105,110,97,116,111,114]] (.l7 [j4 1,l5 true]):=pV [.no,.av (.dt (.row (I5.map aT)))] [_] func94 ⟨aW,Z⟩
theorem JV:j5 94 [p8 o9 [102,108,111,111,114]] (.l7 [j4 1,l5 true]):=pV [.no,.av (.dt (.row (I5.map aT)))] [_] func94 ⟨aW,Z⟩
theorem JW:j5 94 [p8 o9 [115,121,109,98,111,108,45,110,97,109,101]] (.l7 [j4 1,l5 true]):=pV [.no,.av (.dt (.row (I5.map aT)))] [_] func94 ⟨aW,Z⟩
theorem JX:j5 94 [p8 o9 [115,121,109,98,111,108,45,112,97,99,107,97,103,101,45,110,97,109,101]] (.l7 [j4 1,l5 true]):=pV [.no,.av (.dt (.row (I5.map aT)))] [_] func94 ⟨aW,Z⟩
theorem JY:j5 94 [p8 o9 [105,110,116,101,114,110]] (.l7 [j4 2,l5 true]):=pV [.no,.av (.dt (.row (I5.map aT)))] [_] func94 ⟨aW,Z⟩
theorem JZ:j5 94 [p8 o9 [115,116,114,105,110,103,45,97,112,112,101,110,100]] (.l7 [j4 2,l5 true]):=pV [.no,.av (.dt (.row (I5.map aT)))] [_] func94 ⟨aW,Z⟩
theorem Ka:j5 94 [p8 o9 [115,116,114,105,110,103,45,108,101,110,103,116,104]] (.l7 [j4 1,l5 true]):=pV [.no,.av (.dt (.row (I5.map aT)))] [_] func94 ⟨aW,Z⟩
theorem Kb:j5 94 [p8 o9 [115,116,114,105,110,103,45,98,121,116,101]] (.l7 [j4 2,l5 true]):=pV [.no,.av (.dt (.row (I5.map aT)))] [_] func94 ⟨aW,Z⟩
theorem Kc:j5 94 [p8 o9 [98,121,116,101,45,115,116,114,105,110,103]] (.l7 [j4 1,l5 true]):=pV [.no,.av (.dt (.row (I5.map aT)))] [_] func94 ⟨aW,Z⟩
theorem VU:∀{i:Nat} {s:lw} {a:Nat},I5[i]?=some (s,a)→j5 94 [p8 o9 s] (.l7 [j4 (a:Int),l5 true])
 |0,_,_,h=>by cases h;exact zu
 |1,_,_,h=>by cases h;exact KQ
 |2,_,_,h=>by cases h;exact KR
 |3,_,_,h=>by cases h;exact KS
 |4,_,_,h=>by cases h;exact KT
 |5,_,_,h=>by cases h;exact KU
 |6,_,_,h=>by cases h;exact KV
 |7,_,_,h=>by cases h;exact KW
 |8,_,_,h=>by cases h;exact KX
 |9,_,_,h=>by cases h;exact KY
 |10,_,_,h=>by cases h;exact JN
 |11,_,_,h=>by cases h;exact JO
 |12,_,_,h=>by cases h;exact JP
 |13,_,_,h=>by cases h;exact JQ
 |14,_,_,h=>by cases h;exact JR
 |15,_,_,h=>by cases h;exact JS
 |16,_,_,h=>by cases h;exact JU
 |17,_,_,h=>by cases h;exact JV
 |18,_,_,h=>by cases h;exact JW
 |19,_,_,h=>by cases h;exact JX
 |20,_,_,h=>by cases h;exact JY
 |21,_,_,h=>by cases h;exact JZ
 |22,_,_,h=>by cases h;exact Ka
 |23,_,_,h=>by cases h;exact Kb
 |24,_,_,h=>by cases h;exact Kc
 |_+25,_,_,h=>by cases h
theorem Sb:∀(N:Nat) (r:Raw),r.size≤N→∀m:Int,0≤m→m≤1000→0≤fV r m→Fit r∧fV r m+r.size≤m:=by
 intro N
 induction N with
 |zero=>intro r h;have:=r.size_pos;omega
 |succ N ih =>
  intro r hN m h0 h1 hl;have hr:r.size=Raw.eF r.l+1:=by obtain⟨k,n,s,l⟩:=r;rfl
  rw[RZ]at hl ⊢
  split at hl
  ·omega
  ·rename_i hs;rw[EQ hs];split at hl
   ·omega
   ·rename_i h6;rw[EQ h6];rw[b2Z J J]at hl ⊢
    have key:∀(l:List Raw) (m:Int),(∀x∈l,x.size≤N)→-1≤m→m≤1000→0≤ic l m→(∀x∈l,Fit x)∧ic l m+Raw.eF l≤m:=by
     intro l
     induction l with
     |nil=>intro m _ _ h1 _;rw[ic];exact⟨(fun x hx=>by cases hx),by rw[Raw.eF];omega⟩
     |cons x r ihr =>
      intro m hsz hm0 hm1 hp;rw[ic]at hp ⊢
      split at hp
      ·rename_i h0m;rw[Ch h0m];have hx:0≤fV x m:=by
        rcases Int.lt_or_le (fV x m) 0 with h | h
        ·rw[a2C h]at hp;omega
        ·exact h
       obtain⟨f1,f2⟩:=ih x (hsz x (NE ..)) m h0m hm1 hx;obtain⟨g1,g2⟩:=ihr (fV x m) (fun y hy=>hsz y (Cg _ hy)) J J hp;refine⟨fun y hy=>?_,by rw[Raw.eF];omega⟩;rcases Za3.1 hy with rfl | hy
       ·exact f1
       ·exact g1 y hy
      ·omega
    obtain⟨k1,k2⟩:=key r.l (m - 1) (fun x hx=>by have:=Raw.nE hx;omega) J J hl;exact⟨.mk r J J k1,J⟩
theorem a5g{r:Raw}{m:Int}(h0:0≤m)(h1:m≤1000)(h:iy r m=true):Fit r:=(Sb _ r (PP _) m h0 h1 (bv h)).1
theorem a3w{r:Raw}{m:Int}(h0:0≤m)(h1:m≤1000)(h:iy r m=true):(r.size:Int)≤m:=by
 have h2:=(Sb _ r (PP _) m h0 h1 (bv h)).2;have h3:0≤fV r m:=bv h;omega
theorem b3o{r:Raw}(h:Fit r):(V8 r).Ok 10000:=(a9J r h).mono O
def lQ(l:List Raw)(m:Int):Bool:=decide (l.length≤8) && l.all fun r=>iy r m
abbrev V4(l:List Raw):AV:=.dt (.row (l.map Raw.enc))
abbrev jU(l:List Raw)(m i:Int):AS:=⟨stt 22 [(0,V4 l),(1,j4 m),(4,l5 false),(5,j4 i)],[]⟩
noncomputable abbrev BM:Code:=M6 (O4 f31) [1,1,0,1,0,0]
theorem YV{l:List Raw}{x:Raw}{i:Nat}{m:Int}(hx:l[i]?=some x)(hl:l.length≤8)(hf:iy x m=true):y7 EX BM (jU l m i) .F6 (jU l m ((i+1:Nat):Int)) :=
 tW [.av (j4 l.length),yT,.av (.pin ((encR x).map .dt)),yT,.av (j4 ((i+1:Nat):Int))] [] [0,1,4,5] 0 [(vi ↑l.length)=(vi (↑(List.map Raw.enc l).length)),Bt .lss 3 9 11 ↑i ↑l.length bT,z8 (List.map Raw.enc l) ↑i 4 (encR x),j5 22 [(F5 x),(j4 m)] (l5 true),Bk .add 3 13 1 ↑i (vi (↑(i+1)))]     ⟨O1 _,D8 (Pi (by have:=(UV.1 hx).1;omega)),kI hx,(LZ x m).b hf,H6 J J (by have:=(UV.1 hx).1;omega),Z⟩
theorem b58{l:List Raw}{i:Nat}{m:Int}(hi:i=l.length):y7 EX BM (jU l m i) (.out 0) (jU l m i) :=
 tW [.av (j4 l.length),yF] [] [0,1,4,5] 0 [(vi ↑l.length)=(vi (↑(List.map Raw.enc l).length)),Bt .lss 3 9 11 ↑i ↑l.length bF]     ⟨O1 _,D8 (WF J),Z⟩
theorem b59{l:List Raw}{x:Raw}{i:Nat}{m:Int}(hx:l[i]?=some x)(hf:iy x m=false):y7 EX BM (jU l m i) .ret (jU l m i) :=
 tW [.av (j4 l.length),yT,.av (.pin ((encR x).map .dt)),yF] [] [0,1,4,5] 0 [(vi ↑l.length)=(vi (↑(List.map Raw.enc l).length)),Bt .lss 3 9 11 ↑i ↑l.length bT,z8 (List.map Raw.enc l) ↑i 4 (encR x),j5 22 [(F5 x),(j4 m)] (l5 false)]     ⟨O1 _,D8 (Pi (by have:=(UV.1 hx).1;omega)),kI hx,(LZ x m).b hf,Z⟩
theorem vE(l:List Raw)(m:Int):j5 31 [V4 l,j4 m] (l5 (lQ l m)):=by
 unfold lQ;by_cases h8:l.length≤8
 ·rw[Pi h8,Bool.true_and];have loop:∀(s:List Raw) (i:Nat),l.drop i=s→i≤l.length→(s.all (fun r=>iy r m)=true→I7 EX BM (jU l m i) (.out 0) (jU l m l.length))∧(s.all (fun r=>iy r m)=false→∃j:Nat,I7 EX BM (jU l m i) .ret (jU l m j)):=by
   intro s
   induction s with
   |nil =>
    intro i hd hi;have:=Ut hd;obtain rfl:i=l.length:=J;exact⟨fun _=>.stop (b58 rfl) (fun h=>by cases h),fun h=>by cases h⟩
   |cons x s ih =>
    intro i hd hi;obtain⟨hx,hd',hlt⟩:=Sa hd;obtain⟨i1,i2⟩:=ih (i+1) hd' J;cases hf:iy x m with
    |true =>
     rw[List.all_cons,hf,Bool.true_and];refine⟨fun h=>.more (YV hx h8 hf) (i1 h),fun h=>?_⟩;obtain⟨j,hj⟩:=i2 h;exact⟨j,.more (YV hx h8 hf) hj⟩
    |false =>
     rw[List.all_cons,hf,Bool.false_and];exact⟨fun h=>(by cases h),fun _=>⟨i,.stop (b59 hx hf) (fun h=>by cases h)⟩⟩
  obtain⟨l1,l2⟩:=loop l 0 rfl (Ci _);cases ha:l.all (fun r=>iy r m) with
  |true =>
   have l1:=l1 ha;exact pW [.av (j4 l.length),yF] [.inv [0,1,4,5] 0 (.out 0) (jU l m l.length)] [(vi ↑l.length)=(vi (↑(List.map Raw.enc l).length)),Bk .gtr 3 7 8 ↑l.length bF,_] func31 ⟨O1 _,K4 (WF J),l1.I8,Z⟩
  |false =>
   obtain⟨j,hj⟩:=l2 ha;exact pW [.av (j4 l.length),yF] [.inv [0,1,4,5] 0 (.ret) (jU l m j)] [(vi ↑l.length)=(vi (↑(List.map Raw.enc l).length)),Bk .gtr 3 7 8 ↑l.length bF,_] func31 ⟨O1 _,K4 (WF J),hj.I8,Z⟩
 ·rw[WF h8,Bool.false_and];exact pV [.av (j4 l.length),yT] [(vi ↑l.length)=(vi (↑(List.map Raw.enc l).length)),Bk .gtr 3 7 8 ↑l.length bT] func31 ⟨O1 _,K4 (Pi J),Z⟩
theorem aV.cast{P:Program}{G:World→Prop}{f:FuncId}{args:List AV}{xs xs':List (Option Bx)}{r r':AV}(h:aV P G f args xs r xs')(hr:∀(M:Mm) (w:World) (v:Value),RV M w r v→RV M w r' v):aV P G f args xs r' xs' :=
 ⟨h.1,fun X M w vs hG hS ha=>(h.2 X M w vs hG hS ha).mono fun _ _ ⟨v,M',h1,h2,h3,h4,h5⟩=>⟨v,M',h1,h2,h3,h4,hr _ _ _ h5⟩⟩
theorem RV.KZ{M:Mm}{w:World}{v:Value}(h:RV M w .nil v):RV M w (.dt (.row [])) v:=by
 have e:v=.slice none 0 0:=h;rw[e];exact .nil _ _
abbrev nZ:aa0:=[[.val (str o9),.row []]]
theorem a3x:j5 66 [] (.dt (.row nZ)):=pV [] [] func66 trivial
theorem a7X:j5 178 [.dt (.row nZ),stA o9] (.l7 [.agg [stA o9,.dt (.row [])],l5 true]) :=
 pW (nK 4 []) [.run 1] [] func178 trivial
theorem a3y{w:lw}(h0:1≤w.length)(h1:w.length≤40):j5 130 [.dt (.row nZ),stA o9,stA w] (.l7 [p8 o9 w,j4 0]) :=
 pW [.av (.l7 [.agg [stA o9,.dt (.row [])],l5 true]),.av (j4 w.length),yF,.av (j4 w.length),yF,.no,.no] [.run 1] [_,(vi ↑w.length)=(vi (↑w.length)),Bk .lss 3 21 1 ↑w.length bF,(vi ↑w.length)=(vi (↑w.length)),Bk .gtr 3 25 40 ↑w.length bF] func130 ⟨a7X,dP _,D8 (WF J),dP _,K4 (WF J),Z⟩
abbrev cK(all:List p9.Tok)(i:Int):Option Bx:=some (.cells [.dt (.row nZ),stA o9,EH all,j4 i])
theorem lZ{all:List p9.Tok}{i:Nat}{t:p9.Tok}(h:all[i]?=some t):z8 (all.map bI) (i:Int) 5 (bI t):=⟨Int.natCast_nonneg _,by
 rw[Int.toNat_natCast,bi,h];rfl,rfl⟩
abbrev mE(t:p9.Tok):AV:=.pin ((bI t).map .dt)
theorem b0K{all:List p9.Tok}{i p:Nat}{d:Int}{w e:lw}(h:all[i]?=some ⟨5,p,w,e⟩)(hl:all.length≤10000):D6 110 [.ptr 0 0,j4 d] [cK all i] (.l7 [.agg [j4 1,stA w,stA e,stA [],stA [],stA [],.nil],aR]) [cK all ((i+1:Nat):Int)] :=
 sW 1 [0] (.av (mE ⟨5,p,w,e⟩)::nK 4 [.av (j4 ((i+1:Nat):Int))]) [] [z8 (List.map bI all) ↑i 5 ([(.val (vi ({ kind:=5,pos:=p,text:=w,den:=e:p9.Tok }.kind))),(.val (vi (↑{ kind:=5,pos:=p,text:=w,den:=e:p9.Tok }.pos))),(.val (str [])),(.val (Value.string ({ data:={ kind:=5,pos:=p,text:=w,den:=e:p9.Tok }.text.toArray:ByteArray }))),(.val (Value.string ({ data:={ kind:=5,pos:=p,text:=w,den:=e:p9.Tok }.den.toArray:ByteArray })))]),Bk .add 3 43 1 ↑i (vi (↑(i+1)))] func110 ⟨lZ h,H6 J J (by have:=(UV.1 h).1;omega),Z⟩
theorem b0L{all:List p9.Tok}{i p:Nat}{d:Int}{w e:lw}(h:all[i]?=some ⟨6,p,w,e⟩)(hl:all.length≤10000)(h0:1≤w.length)(h1:w.length≤40):D6 110 [.ptr 0 0,j4 d] [cK all i] (.l7 [o7 ⟨2,[],[],o9,w,[],[]⟩,aR]) [cK all ((i+1:Nat):Int)] :=
 sW 1 [0] (.av (mE ⟨6,p,w,e⟩)::nK 6 [.av (j4 ((i+1:Nat):Int)),.no,.av (.l7 [p8 o9 w,j4 0]),.no,.av (o7 ⟨2,[],[],o9,w,[],[]⟩)]) [] [z8 (List.map bI all) ↑i 5 ([(.val (vi ({ kind:=6,pos:=p,text:=w,den:=e:p9.Tok }.kind))),(.val (vi (↑{ kind:=6,pos:=p,text:=w,den:=e:p9.Tok }.pos))),(.val (str [])),(.val (Value.string ({ data:={ kind:=6,pos:=p,text:=w,den:=e:p9.Tok }.text.toArray:ByteArray }))),(.val (Value.string ({ data:={ kind:=6,pos:=p,text:=w,den:=e:p9.Tok }.den.toArray:ByteArray })))]),Bk .add 3 71 1 ↑i (vi (↑(i+1))),j5 130 [(.dt (.row [[(.val (str o9)),(.row [])]])),(stA o9),(.dt (.val (Value.string ({ data:={ kind:=6,pos:=p,text:=w,den:=e:p9.Tok }.text.toArray:ByteArray }))))] (.l7 [(p8 o9 w),(j4 0)]),j5 76 [(p8 o9 w)] (o7 ({ kind:=2,num:=[],den:=[],sp:=o9,sn:=w,text:=[],pair:=[]:Ob }))] func110 ⟨lZ h,H6 J J (by have:=(UV.1 h).1;omega),a3y h0 h1,zo _ _,Z⟩
theorem b0M{all:List p9.Tok}{i k p:Nat}{d:Int}{w e:lw}{o:Ob}(h:all[i]?=some ⟨1,p,w,e⟩)(hl:all.length≤10000)(hd0:0≤d)(hd:d≤200)(hs:D6 131 [.ptr 0 0,j4 (d+1)] [cK all ((i+1:Nat):Int)] (.l7 [o7 o,aR]) [cK all k]):D6 110 [.ptr 0 0,j4 d] [cK all i] (.l7 [o7 o,aR]) [cK all k] :=
 sW 1 [0] (.av (mE ⟨1,p,w,e⟩)::nK 6 [yF,.av (j4 ((i+1:Nat):Int)),.no,.av (j4 (d+1))]) [.J5 32 3 [0] (.l7 [o7 o,aR]) [cK all k]] [z8 (List.map bI all) ↑i 5 ([(.val (vi ({ kind:=1,pos:=p,text:=w,den:=e:p9.Tok }.kind))),(.val (vi (↑{ kind:=1,pos:=p,text:=w,den:=e:p9.Tok }.pos))),(.val (str [])),(.val (Value.string ({ data:={ kind:=1,pos:=p,text:=w,den:=e:p9.Tok }.text.toArray:ByteArray }))),(.val (Value.string ({ data:={ kind:=1,pos:=p,text:=w,den:=e:p9.Tok }.den.toArray:ByteArray })))]),Bk .gtr 3 104 200 d bF,Bk .add 3 113 1 ↑i (vi (↑(i+1))),Bk .add 3 139 1 d (vi (d+1)),_] func110 ⟨lZ h,K4 (WF J),H6 J J (by have:=(UV.1 h).1;omega),H6 rfl J J,hs,Z⟩
theorem Ke(o:Ob):L8 7 [A9 o]:=by
 intro x hx;rw[Cf]at hx;subst hx;refine⟨rfl,fun d hd=>?_⟩;simp only[Za3,Zat,Zb4]at hd;rcases hd with rfl | rfl | rfl | rfl | rfl | rfl | rfl <;> rfl
abbrev uH:Option Bx:=some (.cells [j4 0,stA [],stA [],stA [],stA [],stA [],.nil])
abbrev OB:Option Bx:=some (.cells [j4 0,j4 0])
abbrev OC(o:Ob):Option Bx:=some (.cells [j4 o.kind,stA o.num,stA o.den,stA o.sp,stA o.sn,stA o.text,.dt (.row (o.pair.map Ob.enc))])
abbrev GH(all:List p9.Tok)(i:Int)(last:Ob):List (Option Bx):=[cK all i,uH,OB,OC last]
abbrev uI(all:List p9.Tok)(i d:Int)(es:aa0):AS:=⟨stt 124 [(0,.ptr 0 0),(1,j4 d),(4,.ptr 1 0),(5,.ptr 2 0),(6,.own 4 es.length),(7,.ptr 3 0)],GH all i K8++[some (.buf 45 7 es)]⟩
abbrev OD(all:List p9.Tok)(i d:Int):AS:=⟨stt 124 [(0,.ptr 0 0),(1,j4 d),(4,.ptr 1 0),(5,.ptr 2 0),(6,.nil),(7,.ptr 3 0)],GH all i K8⟩
noncomputable abbrev lsB:Code:=M6 (O4 f131) [1,1,1,0,0,0]
theorem b6a{all:List p9.Tok}{i k:Nat}{d:Int}{es:aa0}{t:p9.Tok}{o:Ob}(h:all[i]?=some t)(h2:t.kind≠2)(h3:t.kind≠3)(he:es.length≤10000)(ho:D6 110 [.ptr 0 0,j4 d] [cK all i] (.l7 [o7 o,aR]) [cK all k]):y7 (J3 1) lsB (uI all i d es) .F6 (uI all k d (es++[A9 o])) :=
 tW [.av (mE t),yT,.av (mE t),yF,.no,.av (.un)] [.J5 16 2 [0] (.l7 [o7 o,aR]) [cK all k]] [0,1,4,5,6,7] 5 [z8 (List.map bI all) ↑i 5 ([(.val (vi t.kind)),(.val (vi ↑t.pos)),(.val (str [])),(.val (str t.text)),(.val (str t.den))]),Bk .neq 3 25 2 t.kind bT,z8 (List.map bI all) ↑i 5 ([(.val (vi t.kind)),(.val (vi ↑t.pos)),(.val (str [])),(.val (str t.text)),(.val (str t.den))]),Bk .eql 3 37 3 t.kind bF,D6 110 [AV.ptr 0 0,AV.dt (Dt.val (vi d))] [some (Bx.cells [AV.dt (Dt.row nZ),AV.dt (Dt.val (str o9)),AV.dt (Dt.row (List.map bI all)),AV.dt (Dt.val (vi ↑i))])] (AV.l7 [o7 o,aR]) [cK all ↑k],(es.length)=(es.length),P7 112 ((es++[[Dt.val (vi o.kind),Dt.val (str o.num),Dt.val (str o.den),Dt.val (str o.sp),Dt.val (str o.sn),Dt.val (str o.text),Dt.row (List.map Ob.enc o.pair)]]).length),L8 7 [A9 o]]     ⟨lZ h,E5 (by simp[h2]),lZ h,C9 (WF h3),ho,rfl,bE J (by simp;omega),Ke o,Z⟩
theorem b6b{all:List p9.Tok}{i:Nat}{d:Int}{es:aa0}{t:p9.Tok}(h:all[i]?=some t)(h2:t.kind=2):y7 (J3 1) lsB (uI all i d es) (.out 0) (uI all i d es) :=
 tW [.av (mE t),yF] [] [0,1,4,5,6,7] 5 [z8 (List.map bI all) ↑i 5 ([(.val (vi t.kind)),(.val (vi ↑t.pos)),(.val (str [])),(.val (str t.text)),(.val (str t.den))]),Bk .neq 3 25 2 t.kind bF]     ⟨lZ h,E5 (by simp[h2]),Z⟩
abbrev OE(all:List p9.Tok)(i d:Int)(es:aa0):AS:=⟨stt 124 [(0,.ptr 0 0),(1,j4 d),(4,.ptr 1 0),(5,.ptr 2 0),(6,.dt (.row es)),(7,.ptr 3 0)],GH all i K8++[some (.aI es)]⟩
abbrev oN(all:List p9.Tok)(i:Int)(last:Ob)(es:aa0)(j:Int):AS:=⟨stt 124 [(4,.ptr 1 0),(5,.ptr 2 0),(6,.dt (.row es)),(7,.ptr 3 0),(13,j4 j)],GH all i last⟩
noncomputable abbrev GI:Code:=M6 (O4 f131) [1,1,1,1,1,0,1,0,0]
theorem b6c{all:List p9.Tok}{i:Int}{last o o2:Ob}{es:aa0}{j:Nat}(hx:es[j]?=some (A9 o))(hl:es.length≤10000)(hc:j5 81 [o7 o,o7 last] (o7 o2)):y7 (J3 1) GI (oN all i last es j) .F6 (oN all i o2 es ((j:Int) - 1)) :=
 tW [yT,.av (.pin ((A9 o).map .dt)),.av (o7 o2),.av (j4 ((j:Int) - 1))] [] [4,5,6,7,13] 4 [Bk .geq 3 112 0 ↑j bT,z8 es ↑j 7 (A9 o),j5 81 [(o7 o),(o7 last)] (o7 o2),Bk .sub 3 114 1 ↑j (vi (↑j - 1))]     ⟨U0 (Pi J),⟨J,by rw[Int.toNat_natCast];exact hx,rfl⟩,hc,bL rfl J (by have:=(UV.1 hx).1;omega),Z⟩
theorem b6d{all:List p9.Tok}{i:Int}{last:Ob}{es:aa0}{j:Int}(hj:j < 0):y7 (J3 1) GI (oN all i last es j) (.out 3) (oN all i last es j) :=
 tW [yF] [] [4,5,6,7,13] 4 [Bk .geq 3 112 0 j bF]     ⟨U0 (WF J),Z⟩
theorem a7Y{all:List p9.Tok}{i:Int}{l:List Tr}(hl:l.length≤10000):∀(j:Nat),j≤l.length→I7 (J3 1) GI (oN all i (Tr.list (l.drop j)).ob (F3 l) ((j:Int) - 1)) (.out 3) (oN all i (Tr.list l).ob (F3 l) (-1)):=by
 intro j
 induction j with
 |zero =>
  intro _;rw[ZaZ];exact .stop (b6d J) (fun h=>by cases h)
 |succ j ih =>
  intro hj;have hx:(F3 l)[j]?=some (A9 (l[j]'J).ob):=by
   unfold F3;rw[bi,ww J];rfl
  have hc:=DC (l[j]'J).ob (Tr.list (l.drop (j+1))).ob;have e:dW (l[j]'J).ob (Tr.list (l.drop (j+1))).ob=(Tr.list (l.drop j)).ob:=by
   rw[ZaC (show j < l.length by omega)]
   rfl
  rw[e]at hc;have h1:=b6c (all:=all) (i:=i) hx (by unfold F3;rw[Cc];omega) hc;rw[show (((j+1:Nat):Int) - 1)=(j:Int) by omega]
  exact .more h1 (ih J)
theorem b0N{all:List p9.Tok}{i k:Nat}{d:Int}{o:Ob}{es:aa0}(h1:y7 (J3 1) (.loop lsB) (OD all i d) (.out 0) (OE all k d es))(hk:k≤10000)(he:es.length≤10000)(h2:y7 (J3 1) (.loop GI) (oN all ((k+1:Nat):Int) K8 es ((es.length:Int) - 1)) (.out 3) (oN all ((k+1:Nat):Int) o es (-1))):D6 131 [.ptr 0 0,j4 d] [cK all i] (.l7 [o7 o,aR]) [cK all ((k+1:Nat):Int)] :=
 sW 1 [0] [.av (o7 K8),.av (j4 ((k+1:Nat):Int)),.av (j4 es.length),.av (j4 ((es.length:Int) - 1))] [.inv [0,1,4,5,6,7] 4 (.out 0) (OE all k d es),.inv [4,5,6,7,13] 4 (.out 3) (oN all ((k+1:Nat):Int) o es (-1))] [_,_,Bk .add 3 105 1 ↑k (vi (↑(k+1))),(vi ↑es.length)=(vi ↑es.length),Bk .sub 3 110 1 ↑es.length (vi (↑es.length - 1)),_] func131 ⟨lY,h1,H6 J J J,rfl,bL rfl J J,h2,Z⟩
namespace p9
theorem XK(d:Nat)(ts:List Tok):jT 0 d ts=none:=by rw[jT.eq_def]
theorem b3p(d:Nat)(ts:List Tok):lu 0 d ts=none:=by rw[lu.eq_def]
theorem b3q(f d:Nat):jT f d []=none:=by cases f <;> rw[jT.eq_def]
theorem b3r(f d:Nat):lu f d []=none:=by cases f <;> rw[lu.eq_def]
theorem XL(f d:Nat)(t:Tok)(r:List Tok):jT (f+1) d (t::r)=(if t.kind=5 then some (.num (numOf t.text),r)
   else if t.kind=6 then some (.sym o9 t.text,r)
   else if t.kind=1∧d≤200 then match lu f (d+1) r with
    |some (l,r')=>some (Tr.list l,r')
    |none=>none
   else none):=by rw[jT.eq_def];rfl
theorem b3s(f d:Nat)(t:Tok)(r:List Tok):lu (f+1) d (t::r)=(if t.kind=2 then some ([],r)
   else match jT f d (t::r) with
    |some (x,r1)=>match lu f d r1 with
     |some (l,r2)=>some (x::l,r2)
     |none=>none
    |none=>none):=by rw[lu.eq_def];rfl
end p9
def wO(t:p9.Tok):Bool:=(!decide (t.kind=5) || (t.den == [49] && (t.text == [48] || t.text == [49] || t.text == [45,49]))) && (!decide (t.kind=6) || (decide (1≤t.text.length) && decide (t.text.length≤40)))
theorem b0O{w:lw}(h:(w == [48] || w == [49] || w == [45,49])=true):(Tr.num (p9.numOf w)).ob=⟨1,w,[49],[],[],[],[]⟩:=by
 simp only[Bool.or_eq_true,beq_iff_eq]at h;rcases h with (rfl | rfl) | rfl <;> decide +kernel
theorem a5h{f d:Nat}{t:p9.Tok}{ts:List p9.Tok}{y:Tr×List p9.Tok}(h:p9.jT f d (t::ts)=some y):t.kind≠3:=by
 cases f with
 |zero=>rw[p9.XK]at h;cases h
 |succ f =>
  rw[p9.XL]at h;intro e;rw[e]at h;simp at h
theorem drop_one{α:Type}{l:List α}{i:Nat}{t:α}{r:List α}(h:l.drop i=t::r):l[i]?=some t∧l.drop (i+1)=r∧i < l.length:=by
 have h1:l[i]?=some t:=by rw[←Za1,h];rfl
 exact⟨h1,by rw[←Za0,h];rfl,(UV.1 h1).1⟩
def ObP(all:List p9.Tok)(f:Nat):Prop:=∀(d i:Nat) (x:Tr) (r:List p9.Tok),p9.jT f d (all.drop i)=some (x,r)→d≤300→∃k,i < k∧k≤all.length∧r=all.drop k∧D6 110 [.ptr 0 0,j4 d] [cK all i] (.l7 [l9 x,aR]) [cK all k]
def LsP(all:List p9.Tok)(f:Nat):Prop:=∀(d i:Nat) (l:List Tr) (r:List p9.Tok) (es:aa0),p9.lu f d (all.drop i)=some (l,r)→d≤300→es.length≤i→∃k,i≤k∧k < all.length∧r=all.drop (k+1)∧es.length+l.length≤k∧I7 (J3 1) lsB (uI all i d es) (.out 0) (uI all k d (es++F3 l))
theorem b6e{all:List p9.Tok}(hl:all.length≤5000)(hok:∀t∈all,wO t=true):∀f,ObP all f∧LsP all f:=by
 intro f
 induction f with
 |zero=>exact⟨fun d i x r h _=>(by rw[p9.XK]at h;cases h),fun d i l r es h _ _=>(by rw[p9.b3p]at h;cases h)⟩
 |succ f ih =>
  obtain⟨ihO,ihL⟩:=ih;refine⟨fun d i x r h hd=>?_,fun d i l r es h hd he=>?_⟩
  ·cases hts:all.drop i with
   |nil=>rw[hts,p9.b3q]at h;cases h
   |cons t ts =>
    rw[hts,p9.XL]at h;obtain⟨ht,hd1,hlt⟩:=drop_one hts;have hk:=hok t (q8 ht);obtain⟨tk,tp,tw,td⟩:=t;unfold wO at hk;simp only at hk h;by_cases h5:tk=5
    ·subst h5;rw[Ch rfl]at h;cases h;simp only[decide_true,Bool.not_true,Bool.false_or,Ce]at hk;obtain⟨⟨k1,k2⟩,_⟩:=hk;rw[beq_iff_eq]at k1;subst k1;refine⟨i+1,J,J,hd1.symm,(b0K ht J).cast fun M w v hv=>?_⟩;show RV M w (.l7 [o7 (Tr.num (p9.numOf tw)).ob,aR]) v;rw[b0O k2];obtain⟨vs,rfl,u0,us0,rfl,⟨ws,rfl,w0,OG,rfl,a0,w1,vs1,rfl,a1,w2,vs2,rfl,a2,w3,vs3,rfl,a3,w4,vs4,rfl,a4,w5,vs5,rfl,a5,w6,vs6,rfl,a6,a7⟩,b1⟩:=hv;exact⟨_,rfl,_,_,rfl,⟨_,rfl,w0,_,rfl,a0,w1,_,rfl,a1,w2,_,rfl,a2,w3,_,rfl,a3,w4,_,rfl,a4,w5,_,rfl,a5,w6,_,rfl,RV.KZ a6,a7⟩,b1⟩
    rw[EQ h5]at h;by_cases h6:tk=6
    ·subst h6;rw[Ch rfl]at h;cases h;simp only[decide_true,Bool.not_true,Bool.false_or,Ce,rE]at hk;exact⟨i+1,J,J,hd1.symm,b0L ht J hk.2.1 hk.2.2⟩
    rw[EQ h6]at h;by_cases h1:tk=1∧d≤200
    ·rw[Ch h1]at h;obtain⟨h1,wS⟩:=h1;subst h1;split at h
     ·rename_i l r' hpl;cases h;rw[←hd1]at hpl;obtain⟨k,g1,g2,g3,g4,g5⟩:=ihL (d+1) (i+1) l _ [] hpl J (Ci _);have g6:y7 (J3 1) (.loop lsB) (OD all ((i+1:Nat):Int) ((d+1:Nat):Int)) (.out 0) (uI all k ((d+1:Nat):Int) (F3 l)):=y7.Z9 6 45 7 (by show 6 < 124;omega) rfl g5.I8;have g7:y7 (J3 1) (.loop lsB) (OD all ((i+1:Nat):Int) ((d+1:Nat):Int)) (.out 0) (OE all k ((d+1:Nat):Int) (F3 l)):=y7.Bi 6 4 (T:=45) (kk:=7) (by show 6 < 124;omega) rfl rfl g6;have hln:(F3 l).length=l.length:=Cc ..;have g8:=(a7Y (all:=all) (i:=((k+1:Nat):Int)) (l:=l) (by rw[List.length_nil]at g4;omega) l.length (PP _)).I8;rw[List.drop_length,←hln]at g8;have g9:=b0N g7 J (by rw[hln];rw[List.length_nil]at g4;omega) g8;exact⟨k+1,J,J,g3,b0M ht J J J g9⟩
     ·cases h
    ·rw[EQ h1]at h;cases h
  ·cases hts:all.drop i with
   |nil=>rw[hts,p9.b3r]at h;cases h
   |cons t ts =>
    rw[hts,p9.b3s]at h;obtain⟨ht,hd1,hlt⟩:=drop_one hts;by_cases h2:t.kind=2
    ·rw[Ch h2]at h;cases h;refine⟨i,PP _,hlt,hd1.symm,by simpa using he,?_⟩;rw[show es++F3 []=es from ZaB _]
     exact .stop (b6b ht h2) (fun h=>by cases h)
    ·rw[EQ h2]at h;split at h
     ·rename_i x r1 hpo;split at h
      ·rename_i l' r2 hpl;cases h;have h3:=a5h hpo;rw[←hts]at hpo;obtain⟨k1,a1,a2,a3,a4⟩:=ihO d i x r1 hpo hd;rw[a3]at hpl;obtain⟨k,g1,g2,g3,g4,g5⟩:=ihL d k1 l' _ (es++[A9 x.ob]) hpl hd (by rw[lm,Zak];omega);rw[lm,Zak]at g4;rw[Zaf]at g5;exact⟨k,J,g2,g3,by rw[yM];omega,.more (b6a ht h2 h3 J a4) g5⟩
      ·cases h
     ·cases h
end Go.Proofs.YtbpmpdadppamgaaGreatDoor
