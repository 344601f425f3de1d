/- The maker's objects, the names and arities of the primitives in the reference, and FewAll, for the laws on clauses. -/
import Derived.Test.YthhknjlmjefklaaGreatDoorBM
namespace Go.Proofs.YthhknjlmjefklaaGreatDoor
open Go.Proofs.Tryz
open Go.RowKit
abbrev a2I(w:aa0):List Dt:=[.val (str w)]
abbrev I7:List (aa0×Nat):=[([105,102],3),([101,113,117,97,108],2),([99,111,110,115],2),([99,97,114],1),([99,100,114],1),([99,111,110,115,112],1),([115,121,109,98,111,108,112],1),([115,116,114,105,110,103,112],1),([114,97,116,105,111,110,97,108,112],1),([105,110,116,101,103,101,114,112],1),([98,105,110,97,114,121,45,43],2),([98,105,110,97,114,121,45,42],2),([117,110,97,114,121,45,45],1),([117,110,97,114,121,45,47],1),([60],2),([110,117,109,101,114,97,116,111,114],1),([100,101,110,111,109,105,110,97,116,111,114],1),([102,108,111,111,114],1),([115,121,109,98,111,108,45,110,97,109,101],1),([115,121,109,98,111,108,45,112,97,99,107,97,103,101,45,110,97,109,101],1),([105,110,116,101,114,110],2),([115,116,114,105,110,103,45,97,112,112,101,110,100],2),([115,116,114,105,110,103,45,108,101,110,103,116,104],1),([115,116,114,105,110,103,45,98,121,116,101],2),([98,121,116,101,45,115,116,114,105,110,103],1)]
abbrev mP(x:aa0×Nat):List Dt:=[.val (str x8),.val (str x.1)]
abbrev bW(x:aa0×Nat):List Dt:=[.val (str x.1),.val (.int .i64 x.2)]
theorem YW{α:Type}{l:List α}{i:Nat}(h:l.drop i=[]):l.length≤i:=by
 have:=congrArg List.length h;rw[Za7,List.length_nil]at this;omega
theorem XE{α:Type}{l r:List α}{i:Nat}{b:α}(h:l.drop i=b::r):l[i]?=some b∧l.drop (i+1)=r∧i < l.length:=by
 have h1:(l.drop i)[0]?=some b:=by rw[h];rfl
 rw[List.getElem?_drop,Nat.add_zero]at h1;exact⟨h1,by rw[←Zaj,h];rfl,(Pi.1 h1).1⟩
theorem zD(t:aa0):l7 68 [stA t] (o9 (.txt t)) :=
 ⟨V8 func68 rfl (by kernel_rfl),fun ok w vs ht hv=>by
  obtain rfl:=hv.iD;exact (a6J w t).mono fun _ _ h=>aI.pure (r:=rP t) rfl h⟩
abbrev rowA(ts:List Tr):AV:=.dt (.row (ts.map fun t=>D9 t.ob))
theorem zU{a b:aa0}(ha:a.length≤1100000)(hb:b.length≤1100000):l7 35 [stA a,stA b] (o9 (.num (Rat.divInt (l9.D5 a) (l9.D5 b)))) :=
 ⟨V8 func35 rfl (by kernel_rfl),fun ok w vs ht hv=>by
  obtain⟨u,us,rfl,h1,h2⟩:=hv;obtain rfl:=RL.iD h2;rw[Rd.Z9 h1];exact (VH a b w ha hb).mono fun _ _ h=>aI.pure (r:=ax (Rat.divInt (l9.D5 a) (l9.D5 b))) rfl h⟩
theorem YX(n:Int)(h0:-9223372036854775808≤n)(h1:n≤9223372036854775807):l7 36 [inA n] (stA (Lib.itoa n)) :=
 ⟨V8 func36 rfl (by kernel_rfl),fun ok w vs ht hv=>by
  obtain rfl:=hv.iD;refine (UN n w ht.1 h0 h1).mono ?_;rintro e w' ⟨rfl,h2⟩;exact⟨_,rfl,h2,.val _⟩⟩
theorem DN(l:aa0):l7 20 [stA l] (y7 G6 l):=pV [] [] func20 trivial
theorem b0C{k:Nat}{s:aa0}(h:CJ[k]?=some s):E5 (CJ.map a2I) (k:Int) 1 [.val (str s)]:=⟨Int.natCast_nonneg _,by
 rw[Int.toNat_natCast,Zag,h];rfl,rfl⟩
theorem rC{n:Int}{k:Nat}{s:aa0}(hk:n % 13=k)(h9:k < 9)(hs:CJ[k]?=some s):l7 67 [inA n] (y7 G6 s) :=
 pV [.no,.no,.av (inA k),.no,yT,.av (.pin [stA s]),.av (y7 G6 s)] [l7 9 [(inA n),(inA 13)] (inA ↑k),Bt .lss 3 12 14 ↑k 9 bT,E5 (CJ.map a2I) (k:Int) 1 [.val (str s)],l7 20 [(stA s)] (y7 G6 s)] func67 ⟨(dU n 13 O O).val (by rw[hk]),F8 (UV J),b0C hs,DN s,Z⟩
theorem b5h(n:Int):l7 67 [inA n] (y7 (fK n).1 (fK n).2):=by
 obtain⟨k,hk,hlt⟩:∃k:Nat,n % 13=k∧k < 13:=⟨(n % 13).toNat,J,J⟩;have e:fK n=IG.getD k (G6,[]):=by unfold fK;rw[hk];rfl
 rw[e]
 match k,hlt,hk with
 |0,_,hk=>exact rC hk O rfl
 |1,_,hk=>exact rC hk O rfl
 |2,_,hk=>exact rC hk O rfl
 |3,_,hk=>exact rC hk O rfl
 |4,_,hk=>exact rC hk O rfl
 |5,_,hk=>exact rC hk O rfl
 |6,_,hk=>exact rC hk O rfl
 |7,_,hk=>exact rC hk O rfl
 |8,_,hk=>exact rC hk O rfl
 |9,_,hk=>exact pV (.no::.no::.av (inA 9)::nK 4 [.av (y7 x8 aQ)]) [l7 9 [(inA n),(inA 13)] (inA 9),l7 29 [(stA [110,105,108])] (y7 x8 aQ)] func67 ⟨(dU n 13 O O).val (by rw[hk];rfl),O1 _,Z⟩
 |10,_,hk=>exact pV (.no::.no::.av (inA 10)::nK 7 [.av (y7 x8 [116])]) [l7 9 [(inA n),(inA 13)] (inA 10),l7 29 [(stA [116])] (y7 x8 [116])] func67 ⟨(dU n 13 O O).val (by rw[hk];rfl),O1 _,Z⟩
 |11,_,hk=>exact pV (.no::.no::.av (inA 11)::nK 10 [.av (y7 x8 [99,97,114])]) [l7 9 [(inA n),(inA 13)] (inA 11),l7 29 [(stA [99,97,114])] (y7 x8 [99,97,114])] func67 ⟨(dU n 13 O O).val (by rw[hk];rfl),O1 _,Z⟩
 |12,_,hk=>exact pV (.no::.no::.av (inA 12)::nK 10 [.av (y7 x8 [113,117,111,116,101])]) [l7 9 [(inA n),(inA 13)] (inA 12),l7 29 [(stA [113,117,111,116,101])] (y7 x8 [113,117,111,116,101])] func67 ⟨(dU n 13 O O).val (by rw[hk];rfl),O1 _,Z⟩
theorem a0k{r x:Raw}{i:Nat}(h:r.l[i]?=some x):l7 70 [J3 r,inA i] (J3 x) :=
 pV [.av (inA r.l.length),yT,.av (.pin ((encR x).map .dt))] [(vi ↑r.l.length)=(vi (↑(List.map Raw.enc r.l).length)),Bt .lss 3 5 8 ↑i ↑r.l.length bT,E5 (List.map Raw.enc r.l) ↑i 4 (encR x)] func70 ⟨fG _,F8 (UV (by have:=(Pi.1 h).1;omega)),uG h,Z⟩
theorem YY{r:Raw}{i:Nat}(h:r.l.length≤i):l7 70 [J3 r,inA i] (J3 ⟨0,0,[],[]⟩) :=
 pV [.av (inA r.l.length),yF] [(vi ↑r.l.length)=(vi (↑(List.map Raw.enc r.l).length)),Bt .lss 3 5 8 ↑i ↑r.l.length bF] func70 ⟨fG _,F8 (WF J),Z⟩
def prt(r:Raw)(i:Nat):Raw:=r.l.getD i ⟨0,0,[],[]⟩
theorem a1D(r:Raw)(i:Nat):l7 70 [J3 r,inA i] (J3 (prt r i)):=by
 unfold prt;rw[bi];rcases Zai i r.l.length with h | h
 ·rw[Za2 h];exact a0k (Za2 h)
 ·rw[Zaf h];exact YY h
theorem a0l(r:Raw)(i:Nat):aK (prt r i)=(r.l.map aK).getD i qf:=by
 unfold prt;rw[bi,bi,Zag];cases r.l[i]? with
 |some x=>rfl
 |none=>rfl
theorem Dk{ts:List Tr}(h:ts.length≤1000000):l7 71 [rowA ts] (o9 (Tr.list ts)) :=
 ⟨V8 func71 rfl (by kernel_rfl),fun ok w vs ht hv=>by
  obtain⟨v,us,rfl,h1,h2⟩:=hv;obtain rfl:us=[]:=h2;have h1':Rd ok w v (.row (ts.map fun t=>D9 t.ob)):=h1;obtain⟨A,n,c,rfl,hn⟩:=Rd.slice h1';have e:(ts.map fun t=>D9 t.ob)=(ts.map Tr.ob).map Ob.enc:=by
   rw[List.map_map];exact List.map_congr_left fun t _=>(Jy t.ob).symm
  rw[e]at h1';have hl:=h1'.len;rw[EQ,EQ]at hl;have hL:=(a6O ok (ts.map Tr.ob) A n c w h1' J).mono fun _ _ h=>nT.pure h
  rw[←Tr.Yx]at hL;exact hL⟩
theorem a1E{r:Raw}(hk:r.kind % 8=0):l7 34 [J3 r] (o9 (.num ((r.n % 2001 - 1000:Int):Rat))):=pV [.av (inA 0),.no,.av (inA (r.n % 2001)),.av (inA (r.n % 2001 - 1000)),.av (o9 (.num ((r.n % 2001 - 1000:Int):Rat)))] [l7 9 [(inA r.kind),(inA 8)] (inA 0),l7 9 [(inA r.n),(inA 2001)] (inA (r.n % 2001)),Bk .sub 3 13 1000 (r.n % 2001) (vi (r.n % 2001 - 1000)),l7 12 [(inA (r.n % 2001 - 1000))] (x9 ((Tr.num ↑(r.n % 2001 - 1000)).ob))] func34 ⟨(dU r.kind 8 O O).val (by rw[hk]),dU _ _ O O,dO rfl J J,zQ _ J J,Z⟩
theorem b5i{r:Raw}(hk:r.kind % 8=1):l7 34 [J3 r] (o9 (.num ((r.n % 2001 - 1000:Int):Rat))):=pV [.av (inA 1),.no,.no,.av (inA (r.n % 2001)),.av (inA (r.n % 2001 - 1000)),.av (o9 (.num ((r.n % 2001 - 1000:Int):Rat)))] [l7 9 [(inA r.kind),(inA 8)] (inA 1),l7 9 [(inA r.n),(inA 2001)] (inA (r.n % 2001)),Bk .sub 3 13 1000 (r.n % 2001) (vi (r.n % 2001 - 1000)),l7 12 [(inA (r.n % 2001 - 1000))] (x9 ((Tr.num ↑(r.n % 2001 - 1000)).ob))] func34 ⟨(dU r.kind 8 O O).val (by rw[hk]),dU _ _ O O,dO rfl J J,zQ _ J J,Z⟩
theorem b5j{r:Raw}(hk:r.kind % 8=3):l7 34 [J3 r] (o9 (.sym (fK r.n).1 (fK r.n).2)):=pV (.av (inA 3)::nK 4 [.av (y7 (fK r.n).1 (fK r.n).2),.av (o9 (.sym (fK r.n).1 (fK r.n).2))]) [l7 9 [(inA r.kind),(inA 8)] (inA 3),l7 67 [(inA r.n)] (y7 (fK r.n).fst (fK r.n).snd),l7 59 [(y7 (fK r.n).fst (fK r.n).snd)] (x9 ((Tr.sym (fK r.n).fst (fK r.n).snd).ob))] func34 ⟨(dU r.kind 8 O O).val (by rw[hk]),b5h r.n,DI _ _,Z⟩
theorem b5k{r:Raw}(hk:r.kind % 8=4):l7 34 [J3 r] (o9 (.txt r.s)):=pV (.av (inA 4)::nK 5 [.av (o9 (.txt r.s))]) [l7 9 [(inA r.kind),(inA 8)] (inA 4),l7 68 [(stA r.s)] (o9 (Tr.txt r.s))] func34 ⟨(dU r.kind 8 O O).val (by rw[hk]),zD r.s,Z⟩
theorem b75{r:Raw}{x y:aa0}{q:Rat}(hk:r.kind % 8=2)(hs:r.s.length≤12)(hx:l7 36 [inA (r.n % 41 - 20)] (stA x))(hy:l7 36 [inA (1+r.s.length)] (stA y))(hr:l7 35 [stA x,stA y] (o9 (.num q))):l7 34 [J3 r] (o9 (.num q)) :=
 pV [.av (inA 2),.no,.no,.no,.av (inA (r.n % 41)),.av (inA (r.n % 41 - 20)),.av (stA x),.av (inA r.s.length),.av (inA (1+r.s.length)),.av (stA y),.av (o9 (.num q))] [l7 9 [(inA r.kind),(inA 8)] (inA 2),l7 9 [(inA r.n),(inA 41)] (inA (r.n % 41)),Bk .sub 3 20 20 (r.n % 41) (vi (r.n % 41 - 20)),_,(vi ↑r.s.length)=(vi (↑r.s.length)),Bn .add 3 (.const (vi 1)) (.tmp 25) (vi 1) (vi ↑r.s.length) (vi (1+↑r.s.length)),_,_] func34 ⟨(dU r.kind 8 O O).val (by rw[hk]),dU _ _ O O,dO rfl J J,hx,IV _,N8 rfl J J,hy,hr,Z⟩
theorem b5l{r:Raw}(hk:r.kind % 8=2)(hs:r.s.length≤12):l7 34 [J3 r] (o9 (.num (Rat.divInt (r.n % 41 - 20) (1+r.s.length)))):=by
 have h:=zU (a:=Lib.itoa (r.n % 41 - 20)) (b:=Lib.itoa (1+r.s.length:Int)) (Za6 (kQ _ (k:=2) O J) O) (Za6 (kQ _ (k:=2) O J) O);rw[l9.P9,l9.P9]at h;exact b75 hk hs (YX _ J J) (YX _ J J) h
theorem b5m{r:Raw}{a b:Tr}(hk:r.kind % 8=5)(ha:l7 34 [J3 (prt r 0)] (o9 a))(hb:l7 34 [J3 (prt r 1)] (o9 b)):l7 34 [J3 r] (o9 (.cons a b)) :=
 pV (.av (inA 5)::nK 6 [.av (J3 (prt r 0)),.av (o9 a),.av (J3 (prt r 1)),.av (o9 b),.av (o9 (.cons a b))]) [l7 9 [(inA r.kind),(inA 8)] (inA 5),l7 70 [(J3 r),(inA 0)] (.agg [(inA ((prt r 0).kind)),(inA ((prt r 0).n)),(stA (prt r 0).s),(.dt (.row (List.map Raw.enc (prt r 0).l)))]),_,l7 70 [(J3 r),(inA 1)] (.agg [(inA ((prt r 1).kind)),(inA ((prt r 1).n)),(stA (prt r 1).s),(.dt (.row (List.map Raw.enc (prt r 1).l)))]),_,l7 69 [(x9 a.ob),(x9 b.ob)] (o9 (a.cons b))] func34 ⟨(dU r.kind 8 O O).val (by rw[hk]),a1D r 0,ha,a1D r 1,hb,Ik a.ob b.ob,Z⟩
abbrev G7(ts:List Tr):aa1:=ts.map fun t=>D9 t.ob
abbrev yj(r:Raw):AS:=⟨stt 67 [(1,.ptr 0 0),(2,.ptr 1 0),(3,.nil),(4,inA 0)],[some (.cells [inA r.kind,inA r.n,stA r.s,.dt (.row (r.l.map Raw.enc))]),some (.cells [inA 0,stA [],stA [],stA [],stA [],stA [],.nil])]⟩
abbrev oU(r:Raw)(es:aa1)(n:Nat)(i:Int):AS:=⟨stt 67 [(1,.ptr 0 0),(2,.ptr 1 0),(3,.own 2 n),(4,inA i)],[some (.cells [inA r.kind,inA r.n,stA r.s,.dt (.row (r.l.map Raw.enc))]),some (.cells [inA 0,stA [],stA [],stA [],stA [],stA [],.nil]),some (.buf 37 7 es)]⟩
noncomputable abbrev yu:Code:=V5 (ai f34) [1,1,1,0,1,0,0]
theorem YZ(t:Tr):S9 7 [D9 t.ob]:=by
 intro x hx;rw[ut]at hx;subst hx;refine⟨rfl,fun d hd=>?_⟩;simp only[Zao,ZaO,or_false]at hd;rcases hd with rfl | rfl | rfl | rfl | rfl | rfl | rfl <;> rfl
theorem oqA{r x:Raw}{t:Tr}(hx:r.l[0]?=some x)(hl:r.l.length≤8)(ht:l7 34 [J3 x] (o9 t)):D7 EX yu (yj r) .I4 (oU r [D9 t.ob] 1 ((1:Nat):Int)) :=
 tW [.av (inA r.l.length),yT,.av (.pin ((encR x).map .dt)),.av (o9 t),.av (.un),.av (inA ((1:Nat):Int))] [] [1,2,3,4] 3 [Value.int .i64 (r.l.length:Int)=Value.int .i64 ((r.l.map Raw.enc).length:Int),dS prog .lss 3 (.tmp 49) (.tmp 52) (.int .i64 0) (.int .i64 (r.l.length:Int)) (.bool true),E5 (r.l.map Raw.enc) 0 4 (encR x),l7 34 [J3 x] (o9 t),X8 112 1,S9 7 [D9 t.ob],dS prog .add 3 (.tmp 54) (.const (.int .i64 1)) (.int .i64 0) (.int .i64 1) (.int .i64 ((1:Nat):Int))]     ⟨fG _,F8 (UV (by have:=(Pi.1 hx).1;omega)),uG hx,ht,⟨O,O⟩,YZ t,N8 J J J,Z⟩
theorem oqE{r:Raw}:r.l=[]→D7 EX yu (yj r) (.out 1) (yj r):=fun h =>
 tW [.av (inA r.l.length),yF] [] [1,2,3,4] 2 [(vi ↑r.l.length)=(vi (↑(List.map Raw.enc r.l).length)),Bt .lss 3 49 52 0 ↑r.l.length bF]     ⟨fG _,F8 (WF (by rw[h];decide)),Z⟩
theorem oqN{r x:Raw}{t:Tr}{es:aa1}{n i:Nat}(hx:r.l[i]?=some x)(hl:r.l.length≤8)(hn:es.length=n)(hi:n≤8)(ht:l7 34 [J3 x] (o9 t)):D7 EX yu (oU r es n i) .I4 (oU r (es++[D9 t.ob]) (es++[D9 t.ob]).length ((i+1:Nat):Int)) :=
 tW [.av (inA r.l.length),yT,.av (.pin ((encR x).map .dt)),.av (o9 t),.av (.un),.av (inA ((i+1:Nat):Int))] [] [1,2,3,4] 3 [Value.int .i64 (r.l.length:Int)=Value.int .i64 ((r.l.map Raw.enc).length:Int),dS prog .lss 3 (.tmp 49) (.tmp 52) (.int .i64 (i:Int)) (.int .i64 (r.l.length:Int)) (.bool true),E5 (r.l.map Raw.enc) (i:Int) 4 (encR x),l7 34 [J3 x] (o9 t),es.length=n,X8 112 (es++[D9 t.ob]).length,S9 7 [D9 t.ob],dS prog .add 3 (.tmp 54) (.const (.int .i64 1)) (.int .i64 (i:Int)) (.int .i64 1) (.int .i64 ((i+1:Nat):Int))]     ⟨fG _,F8 (UV (by have:=(Pi.1 hx).1;omega)),uG hx,ht,hn,⟨by rw[Za4,hn];exact Za6 (show n+1≤9 by omega) O,by rw[Za4,hn];exact Za6 (ZaJ _ (show n+1≤9 by omega)) O⟩,YZ t,N8 J J (by have:=(Pi.1 hx).1;omega),Z⟩
theorem oqF{r:Raw}{es:aa1}{n i:Nat}(hi:r.l.length≤i):D7 EX yu (oU r es n i) (.out 1) (oU r es n i) :=
 tW [.av (inA r.l.length),yF] [] [1,2,3,4] 3 [(vi ↑r.l.length)=(vi (↑(List.map Raw.enc r.l).length)),Bt .lss 3 49 52 ↑i ↑r.l.length bF]     ⟨fG _,F8 (WF J),Z⟩
theorem b5n{r:Raw}(h8:r.l.length≤8)(hf:∀x∈r.l,l7 34 [J3 x] (o9 (aK x))):∀(s:List Raw) (i n:Nat) (es:aa1),r.l.drop i=s→i≤r.l.length→es.length=n→n+s.length≤8→∃j:Nat,Lps EX yu (oU r es n i) (.out 1) (oU r (es++G7 (s.map aK)) (es++G7 (s.map aK)).length j):=by
 intro s
 induction s with
 |nil =>
  intro i n es hd hi hn _;have:=YW hd;refine⟨i,?_⟩;simp only[Zb4,G7,ZaI];rw[hn];exact .stop (oqF this) (fun h=>by cases h)
 |cons x s ih =>
  intro i n es hd hi hn h9;obtain⟨hx,hd',hlt⟩:=XE hd;rw[Za1]at h9;obtain⟨j,hj⟩:=ih (i+1) (es++[D9 (aK x).ob]).length (es++[D9 (aK x).ob]) hd' J rfl (by rw[Za4,hn];show n+1+_≤8;omega);refine⟨j,.more (oqN hx h8 hn J (hf x (Za5 hx))) ?_⟩;have e:es++[D9 (aK x).ob]++G7 (s.map aK)=es++G7 ((x::s).map aK):=by
   rw[Zah];rfl
  rw[e]at hj;exact hj
theorem b3k{r:Raw}{ts:List Tr}(hk:r.kind % 8=6)(hr:r.l=[])(hts:ts=[]):l7 34 [J3 r] (o9 (Tr.list ts)):=by
 subst hts;have hl:=(Lps.stop (oqE hr) (fun h=>by cases h)).tri;have h2:=Dk (ts:=[]) (ww _);exact pW (.av (inA 6)::nK 6 [.av (o9 (Tr.list []))]) [.inv [1,2,3,4] 2 (.out 1) (yj r)] [l7 9 [inA r.kind,inA 8] (inA 6),_,_] func34 ⟨(dU r.kind 8 O O).val (by rw[hk]),hl,h2,Z⟩
theorem b5o{r:Raw}{ts:List Tr}{j:Nat}(hk:r.kind % 8=6)(hl:D7 EX (.loop yu) (yj r) (.out 1) (oU r (G7 ts) (G7 ts).length j))(h8:ts.length≤8):l7 34 [J3 r] (o9 (Tr.list ts)) :=
 pW (.av (inA 6)::nK 6 [.av (o9 (Tr.list ts))]) [.inv [1,2,3,4] 3 (.out 1) (oU r (G7 ts) (G7 ts).length j)] [l7 9 [inA r.kind,inA 8] (inA 6),_,l7 71 [rowA ts] (o9 (Tr.list ts)),(G7 ts).length=(G7 ts).length] func34 ⟨(dU r.kind 8 O O).val (by rw[hk]),hl,Dk J,rfl,Z⟩
theorem b3l{r:Raw}{ts:List Tr}(hk:r.kind % 8=7)(hr:r.l=[])(hts:ts=[]):l7 34 [J3 r] (o9 (Tr.list ts)):=by
 subst hts;have hl:=(Lps.stop (oqE hr) (fun h=>by cases h)).tri;have h2:=Dk (ts:=[]) (ww _);exact pW (.av (inA 7)::nK 6 [.av (o9 (Tr.list []))]) [.inv [1,2,3,4] 2 (.out 1) (yj r)] [l7 9 [inA r.kind,inA 8] (inA 7),_,_] func34 ⟨(dU r.kind 8 O O).val (by rw[hk]),hl,h2,Z⟩
theorem b5p{r:Raw}{ts:List Tr}{j:Nat}(hk:r.kind % 8=7)(hl:D7 EX (.loop yu) (yj r) (.out 1) (oU r (G7 ts) (G7 ts).length j))(h8:ts.length≤8):l7 34 [J3 r] (o9 (Tr.list ts)) :=
 pW (.av (inA 7)::nK 6 [.av (o9 (Tr.list ts))]) [.inv [1,2,3,4] 3 (.out 1) (oU r (G7 ts) (G7 ts).length j)] [l7 9 [inA r.kind,inA 8] (inA 7),_,l7 71 [rowA ts] (o9 (Tr.list ts)),(G7 ts).length=(G7 ts).length] func34 ⟨(dU r.kind 8 O O).val (by rw[hk]),hl,Dk J,rfl,Z⟩
theorem b0D{r:Raw}(hk:r.kind % 8=6∨r.kind % 8=7)(h8:r.l.length≤8)(hf:∀x∈r.l,l7 34 [J3 x] (o9 (aK x))):l7 34 [J3 r] (o9 (Tr.list (r.l.map aK))):=by
 have go:=b5n h8 hf
 match hr:r.l,h8,hf,go with
 |[],_,_,_ =>
  rcases hk with hk | hk
  ·exact b3k hk hr rfl
  ·exact b3l hk hr rfl
 |x::s,h8,hf,go =>
  rw[Za1]at h8;obtain⟨j,hj⟩:=go s 1 1 [D9 (aK x).ob] rfl I rfl J;have h1:=oqA (r:=r) (x:=x) (by rw[hr];rfl) (by rw[hr,Za1];omega) (hf x (PP ..));have hl:=(Lps.more h1 hj).tri;have e:[D9 (aK x).ob]++G7 (s.map aK)=G7 ((x::s).map aK):=rfl;rw[e]at hl;have l8:((x::s).map aK).length≤8:=by rw[EQ,Za1];omega
  rcases hk with hk | hk
  ·exact b5o hk hl l8
  ·exact b5p hk hl l8
theorem a0m:∀(N:Nat) (r:Raw),r.size≤N→Fit r→l7 34 [J3 r] (o9 (aK r)):=by
 intro N
 induction N with
 |zero=>intro r h;have:=r.size_pos;omega
 |succ N ih =>
  intro r hN hf;have kid:∀x∈r.l,l7 34 [J3 x] (o9 (aK x)):=fun x hx=>ih x (by have:=Raw.zI hx;omega) (hf.kids hx)
  have hp:∀i,l7 34 [J3 (prt r i)] (o9 (aK (prt r i))):=fun i=>by
   unfold prt;rw[bi];rcases Zai i r.l.length with h | h
   ·rw[Za2 h];exact kid _ (Zay h)
   ·rw[Zaf h];exact a1E (r:=⟨0,0,[],[]⟩) rfl
  rw[Qd];unfold mkK;have hb:=Int.emod_nonneg r.kind (show (8:Int)≠0 by decide);have hb':=Int.emod_lt_of_pos r.kind (show (0:Int) < 8 by decide);split
  ·rename_i h;rcases h with h | h
   ·exact a1E h
   ·exact b5i h
  ·split
   ·rename_i h;exact b5l h hf.s
   ·split
    ·rename_i h;exact b5j h
    ·split
     ·rename_i h;exact b5k h
     ·split
      ·rename_i h;rw[←a0l,←a0l];exact b5m h (hp 0) (hp 1)
      ·exact b0D J (by have:=hf.l;omega) kid
theorem cZ:l7 33 [] (.dt (.row (I7.map bW))):=pV [] [] func33 trivial
theorem a8z:l7 8 [] (.dt (.row (I7.map mP))):=pV ([.av (.dt (.row (I7.map bW))),.no,.no,.no,.av (y7 x8 [105,102])]++nK 5 (.av (y7 x8 [101,113,117,97,108])::nK 5 (.av (y7 x8 [99,111,110,115])::nK 5 (.av (y7 x8 [99,97,114])::nK 5 (.av (y7 x8 [99,100,114])::nK 5 (.av (y7 x8 [99,111,110,115,112])::nK 5 (.av (y7 x8 [115,121,109,98,111,108,112])::nK 5 (.av (y7 x8 [115,116,114,105,110,103,112])::nK 5 (.av (y7 x8 [114,97,116,105,111,110,97,108,112])::nK 5 (.av (y7 x8 [105,110,116,101,103,101,114,112])::nK 5 (.av (y7 x8 [98,105,110,97,114,121,45,43])::nK 5 (.av (y7 x8 [98,105,110,97,114,121,45,42])::nK 5 (.av (y7 x8 [117,110,97,114,121,45,45])::nK 5 (.av (y7 x8 [117,110,97,114,121,45,47])::nK 5 (.av (y7 x8 [60])::nK 5 (.av (y7 x8 [110,117,109,101,114,97,116,111,114])::nK 5 (.av (y7 x8 [100,101,110,111,109,105,110,97,116,111,114])::nK 5 (.av (y7 x8 [102,108,111,111,114])::nK 5 (.av (y7 x8 [115,121,109,98,111,108,45,110,97,109,101])::nK 5 (.av (y7 x8 [115,121,109,98,111,108,45,112,97,99,107,97,103,101,45,110,97,109,101])::nK 5 (.av (y7 x8 [105,110,116,101,114,110])::nK 5 (.av (y7 x8 [115,116,114,105,110,103,45,97,112,112,101,110,100])::nK 5 (.av (y7 x8 [115,116,114,105,110,103,45,108,101,110,103,116,104])::nK 5 (.av (y7 x8 [115,116,114,105,110,103,45,98,121,116,101])::nK 5 [.av (y7 x8 [98,121,116,101,45,115,116,114,105,110,103]),.no,.no])))))))))))))))))))))))) [_,l7 29 [(stA ([105,102],3).fst)] (y7 x8 [105,102]),l7 29 [(stA ([101,113,117,97,108],2).fst)] (y7 x8 [101,113,117,97,108]),l7 29 [(stA ([99,111,110,115],2).fst)] (y7 x8 [99,111,110,115]),l7 29 [(stA ([99,97,114],1).fst)] (y7 x8 [99,97,114]),l7 29 [(stA ([99,100,114],1).fst)] (y7 x8 [99,100,114]),l7 29 [(stA ([99,111,110,115,112],1).fst)] (y7 x8 [99,111,110,115,112]),l7 29 [(stA ([115,121,109,98,111,108,112],1).fst)] (y7 x8 [115,121,109,98,111,108,112]),l7 29 [(stA ([115,116,114,105,110,103,112],1).fst)] (y7 x8 [115,116,114,105,110,103,112]),l7 29 [(stA ([114,97,116,105,111,110,97,108,112],1).fst)] (y7 x8 [114,97,116,105,111,110,97,108,112]),l7 29 [(stA ([105,110,116,101,103,101,114,112],1).fst)] (y7 x8 [105,110,116,101,103,101,114,112]),l7 29 [(stA ([98,105,110,97,114,121,45,43],2).fst)] (y7 x8 [98,105,110,97,114,121,45,43]),l7 29 [(stA ([98,105,110,97,114,121,45,42],2).fst)] (y7 x8 [98,105,110,97,114,121,45,42]),l7 29 [(stA ([117,110,97,114,121,45,45],1).fst)] (y7 x8 [117,110,97,114,121,45,45]),l7 29 [(stA ([117,110,97,114,121,45,47],1).fst)] (y7 x8 [117,110,97,114,121,45,47]),l7 29 [(stA ([60],2).fst)] (y7 x8 [60]),l7 29 [(stA ([110,117,109,101,114,97,116,111,114],1).fst)] (y7 x8 [110,117,109,101,114,97,116,111,114]),l7 29 [(stA ([100,101,110,111,109,105,110,97,116,111,114],1).fst)] (y7 x8 [100,101,110,111,109,105,110,97,116,111,114]),l7 29 [(stA ([102,108,111,111,114],1).fst)] (y7 x8 [102,108,111,111,114]),l7 29 [(stA ([115,121,109,98,111,108,45,110,97,109,101],1).fst)] (y7 x8 [115,121,109,98,111,108,45,110,97,109,101]),l7 29 [(stA ([115,121,109,98,111,108,45,112,97,99,107,97,103,101,45,110,97,109,101],1).fst)] (y7 x8 [115,121,109,98,111,108,45,112,97,99,107,97,103,101,45,110,97,109,101]),l7 29 [(stA ([105,110,116,101,114,110],2).fst)] (y7 x8 [105,110,116,101,114,110]),l7 29 [(stA ([115,116,114,105,110,103,45,97,112,112,101,110,100],2).fst)] (y7 x8 [115,116,114,105,110,103,45,97,112,112,101,110,100]),l7 29 [(stA ([115,116,114,105,110,103,45,108,101,110,103,116,104],1).fst)] (y7 x8 [115,116,114,105,110,103,45,108,101,110,103,116,104]),l7 29 [(stA ([115,116,114,105,110,103,45,98,121,116,101],2).fst)] (y7 x8 [115,116,114,105,110,103,45,98,121,116,101]),l7 29 [(stA ([98,121,116,101,45,115,116,114,105,110,103],1).fst)] (y7 x8 [98,121,116,101,45,115,116,114,105,110,103]),25=25] func8 ⟨cZ,O1 _,O1 _,O1 _,O1 _,O1 _,O1 _,O1 _,O1 _,O1 _,O1 _,O1 _,O1 _,O1 _,O1 _,O1 _,O1 _,O1 _,O1 _,O1 _,O1 _,O1 _,O1 _,O1 _,O1 _,O1 _,by decide +kernel,Z⟩
theorem DR:l7 10 [y7 x8 [105,102]] (.o7 [inA 3,o6 true]):=pV [.no,.av (.dt (.row (I7.map bW)))] [_] func10 ⟨cZ,Z⟩
theorem Qn:l7 10 [y7 x8 [101,113,117,97,108]] (.o7 [inA 2,o6 true]):=pV [.no,.av (.dt (.row (I7.map bW)))] [_] func10 ⟨cZ,Z⟩
theorem Qo:l7 10 [y7 x8 [99,111,110,115]] (.o7 [inA 2,o6 true]):=pV [.no,.av (.dt (.row (I7.map bW)))] [_] func10 ⟨cZ,Z⟩
theorem Qp:l7 10 [y7 x8 [99,97,114]] (.o7 [inA 1,o6 true]):=pV [.no,.av (.dt (.row (I7.map bW)))] [_] func10 ⟨cZ,Z⟩
theorem Qq:l7 10 [y7 x8 [99,100,114]] (.o7 [inA 1,o6 true]):=pV [.no,.av (.dt (.row (I7.map bW)))] [_] func10 ⟨cZ,Z⟩
theorem Qr:l7 10 [y7 x8 [99,111,110,115,112]] (.o7 [inA 1,o6 true]):=pV [.no,.av (.dt (.row (I7.map bW)))] [_] func10 ⟨cZ,Z⟩
theorem Qs:l7 10 [y7 x8 [115,121,109,98,111,108,112]] (.o7 [inA 1,o6 true]):=pV [.no,.av (.dt (.row (I7.map bW)))] [_] func10 ⟨cZ,Z⟩
theorem Qu:l7 10 [y7 x8 [115,116,114,105,110,103,112]] (.o7 [inA 1,o6 true]):=pV [.no,.av (.dt (.row (I7.map bW)))] [_] func10 ⟨cZ,Z⟩
theorem Qv:l7 10 [y7 x8 [114,97,116,105,111,110,97,108,112]] (.o7 [inA 1,o6 true]):=pV [.no,.av (.dt (.row (I7.map bW)))] [_] func10 ⟨cZ,Z⟩
theorem Qw:l7 10 [y7 x8 [105,110,116,101,103,101,114,112]] (.o7 [inA 1,o6 true]):=pV [.no,.av (.dt (.row (I7.map bW)))] [_] func10 ⟨cZ,Z⟩
theorem OW:l7 10 [y7 x8 [98,105,110,97,114,121,45,43]] (.o7 [inA 2,o6 true]):=pV [.no,.av (.dt (.row (I7.map bW)))] [_] func10 ⟨cZ,Z⟩
theorem OX:l7 10 [y7 x8 [98,105,110,97,114,121,45,42]] (.o7 [inA 2,o6 true]):=pV [.no,.av (.dt (.row (I7.map bW)))] [_] func10 ⟨cZ,Z⟩
theorem OY:l7 10 [y7 x8 [117,110,97,114,121,45,45]] (.o7 [inA 1,o6 true]):=pV [.no,.av (.dt (.row (I7.map bW)))] [_] func10 ⟨cZ,Z⟩
theorem OZ:l7 10 [y7 x8 [117,110,97,114,121,45,47]] (.o7 [inA 1,o6 true]):=pV [.no,.av (.dt (.row (I7.map bW)))] [_] func10 ⟨cZ,Z⟩
theorem Pe:l7 10 [y7 x8 [60]] (.o7 [inA 2,o6 true]):=pV [.no,.av (.dt (.row (I7.map bW)))] [_] func10 ⟨cZ,Z⟩
theorem Pg:l7 10 [y7 x8 [110,117,109,101,114,97,116,111,114]] (.o7 [inA 1,o6 true]):=pV [.no,.av (.dt (.row (I7.map bW)))] [_] func10 ⟨cZ,Z⟩
theorem Ph:l7 10 [y7 x8 [100,101,110,111,109,105,110,97,116,111,114]] (.o7 [inA 1,o6 true]):=pV [.no,.av (.dt (.row (I7.map bW)))] [_] func10 ⟨cZ,Z⟩
theorem Pj:l7 10 [y7 x8 [102,108,111,111,114]] (.o7 [inA 1,o6 true]):=pV [.no,.av (.dt (.row (I7.map bW)))] [_] func10 ⟨cZ,Z⟩
theorem Pm:l7 10 [y7 x8 [115,121,109,98,111,108,45,110,97,109,101]] (.o7 [inA 1,o6 true]):=pV [.no,.av (.dt (.row (I7.map bW)))] [_] func10 ⟨cZ,Z⟩
theorem Pn:l7 10 [y7 x8 [115,121,109,98,111,108,45,112,97,99,107,97,103,101,45,110,97,109,101]] (.o7 [inA 1,o6 true]):=pV [.no,.av (.dt (.row (I7.map bW)))] [_] func10 ⟨cZ,Z⟩
theorem Po:l7 10 [y7 x8 [105,110,116,101,114,110]] (.o7 [inA 2,o6 true]):=pV [.no,.av (.dt (.row (I7.map bW)))] [_] func10 ⟨cZ,Z⟩
theorem Pv:l7 10 [y7 x8 [115,116,114,105,110,103,45,97,112,112,101,110,100]] (.o7 [inA 2,o6 true]):=pV [.no,.av (.dt (.row (I7.map bW)))] [_] func10 ⟨cZ,Z⟩
theorem Px:l7 10 [y7 x8 [115,116,114,105,110,103,45,108,101,110,103,116,104]] (.o7 [inA 1,o6 true]):=pV [.no,.av (.dt (.row (I7.map bW)))] [_] func10 ⟨cZ,Z⟩
theorem Py:l7 10 [y7 x8 [115,116,114,105,110,103,45,98,121,116,101]] (.o7 [inA 2,o6 true]):=pV [.no,.av (.dt (.row (I7.map bW)))] [_] func10 ⟨cZ,Z⟩
theorem Pz:l7 10 [y7 x8 [98,121,116,101,45,115,116,114,105,110,103]] (.o7 [inA 1,o6 true]):=pV [.no,.av (.dt (.row (I7.map bW)))] [_] func10 ⟨cZ,Z⟩
theorem a0n:∀{i:Nat} {s:aa0} {a:Nat},I7[i]?=some (s,a)→l7 10 [y7 x8 s] (.o7 [inA (a:Int),o6 true])
 |0,_,_,h=>by cases h;exact DR
 |1,_,_,h=>by cases h;exact Qn
 |2,_,_,h=>by cases h;exact Qo
 |3,_,_,h=>by cases h;exact Qp
 |4,_,_,h=>by cases h;exact Qq
 |5,_,_,h=>by cases h;exact Qr
 |6,_,_,h=>by cases h;exact Qs
 |7,_,_,h=>by cases h;exact Qu
 |8,_,_,h=>by cases h;exact Qv
 |9,_,_,h=>by cases h;exact Qw
 |10,_,_,h=>by cases h;exact OW
 |11,_,_,h=>by cases h;exact OX
 |12,_,_,h=>by cases h;exact OY
 |13,_,_,h=>by cases h;exact OZ
 |14,_,_,h=>by cases h;exact Pe
 |15,_,_,h=>by cases h;exact Pg
 |16,_,_,h=>by cases h;exact Ph
 |17,_,_,h=>by cases h;exact Pj
 |18,_,_,h=>by cases h;exact Pm
 |19,_,_,h=>by cases h;exact Pn
 |20,_,_,h=>by cases h;exact Po
 |21,_,_,h=>by cases h;exact Pv
 |22,_,_,h=>by cases h;exact Px
 |23,_,_,h=>by cases h;exact Py
 |24,_,_,h=>by cases h;exact Pz
 |_+25,_,_,h=>by cases h
theorem XF:∀(N:Nat) (r:Raw),r.size≤N→∀m:Int,0≤m→m≤1000→0≤jw r m→Fit r∧jw r m+r.size≤m:=by
 intro N
 induction N with
 |zero=>intro r h;have:=r.size_pos;omega
 |succ N ih =>
  intro r hN m h0 h1 hl;have hr:r.size=Raw.eQ r.l+1:=by obtain⟨k,n,s,l⟩:=r;rfl
  rw[XD]at hl ⊢
  split at hl
  ·omega
  ·rename_i hs;rw[lw hs];split at hl
   ·omega
   ·rename_i h6;rw[lw h6];rw[b5d J J]at hl ⊢
    have key:∀(l:List Raw) (m:Int),(∀x∈l,x.size≤N)→-1≤m→m≤1000→0≤jW l m→(∀x∈l,Fit x)∧jW l m+Raw.eQ l≤m:=by
     intro l
     induction l with
     |nil=>intro m _ _ h1 _;rw[jW];exact⟨(fun x hx=>by cases hx),by rw[Raw.eQ];omega⟩
     |cons x r ihr =>
      intro m hsz hm0 hm1 hp;rw[jW]at hp ⊢
      split at hp
      ·rename_i h0m;rw[Za0 h0m];have hx:0≤jw x m:=by
        rcases Int.lt_or_le (jw x m) 0 with h | h
        ·rw[a6s h]at hp;omega
        ·exact h
       obtain⟨f1,f2⟩:=ih x (hsz x (PP ..)) m h0m hm1 hx;obtain⟨g1,g2⟩:=ihr (jw x m) (fun y hy=>hsz y (lm _ hy)) J J hp;refine⟨fun y hy=>?_,by rw[Raw.eQ];omega⟩;rcases Zao.1 hy with rfl | hy
       ·exact f1
       ·exact g1 y hy
      ·omega
    obtain⟨k1,k2⟩:=key r.l (m - 1) (fun x hx=>by have:=Raw.zI hx;omega) J J hl;exact⟨.mk r J J k1,J⟩
theorem a8A{r:Raw}{m:Int}(h0:0≤m)(h1:m≤1000)(h:jI r m=true):Fit r:=(XF _ r (NE _) m h0 h1 (Zad h)).1
theorem NL{r:Raw}{m:Int}(h0:0≤m)(h1:m≤1000)(h:jI r m=true):(r.size:Int)≤m:=by
 have h2:=(XF _ r (NE _) m h0 h1 (Zad h)).2;have h3:0≤jw r m:=Zad h;omega
def Ip(l:List Raw)(m:Int):Bool:=decide (l.length≤8) && l.all fun r=>jI r m
abbrev lC(l:List Raw):AV:=.dt (.row (l.map Raw.enc))
abbrev ni(l:List Raw)(m i:Int):AS:=⟨stt 22 [(0,lC l),(1,inA m),(4,o6 false),(5,inA i)],[]⟩
noncomputable abbrev FP:Code:=V5 (ai f6) [1,1,0,1,0,0]
theorem a2J{l:List Raw}{x:Raw}{i:Nat}{m:Int}(hx:l[i]?=some x)(hl:l.length≤8)(hf:jI x m=true):D7 EX FP (ni l m i) .I4 (ni l m ((i+1:Nat):Int)) :=
 tW [.av (inA l.length),yT,.av (.pin ((encR x).map .dt)),yT,.av (inA ((i+1:Nat):Int))] [] [0,1,4,5] 0 [(vi ↑l.length)=(vi (↑(List.map Raw.enc l).length)),Bt .lss 3 9 11 ↑i ↑l.length bT,E5 (List.map Raw.enc l) ↑i 4 (encR x),l7 18 [(J3 x),(inA m)] (o6 true),Bk .add 3 13 1 ↑i (vi (↑(i+1)))]     ⟨fG _,F8 (UV (by have:=(Pi.1 hx).1;omega)),uG hx,(Jz x m).b hf,N8 J J (by have:=(Pi.1 hx).1;omega),Z⟩
theorem b76{l:List Raw}{i:Nat}{m:Int}(hi:i=l.length):D7 EX FP (ni l m i) (.out 0) (ni l m i) :=
 tW [.av (inA l.length),yF] [] [0,1,4,5] 0 [(vi ↑l.length)=(vi (↑(List.map Raw.enc l).length)),Bt .lss 3 9 11 ↑i ↑l.length bF]     ⟨fG _,F8 (WF J),Z⟩
theorem b77{l:List Raw}{x:Raw}{i:Nat}{m:Int}(hx:l[i]?=some x)(hf:jI x m=false):D7 EX FP (ni l m i) .ret (ni l m i) :=
 tW [.av (inA l.length),yT,.av (.pin ((encR x).map .dt)),yF] [] [0,1,4,5] 0 [(vi ↑l.length)=(vi (↑(List.map Raw.enc l).length)),Bt .lss 3 9 11 ↑i ↑l.length bT,E5 (List.map Raw.enc l) ↑i 4 (encR x),l7 18 [(J3 x),(inA m)] (o6 false)]     ⟨fG _,F8 (UV (by have:=(Pi.1 hx).1;omega)),uG hx,(Jz x m).b hf,Z⟩
theorem a8B(l:List Raw)(m:Int):l7 6 [lC l,inA m] (o6 (Ip l m)):=by
 unfold Ip;by_cases h8:l.length≤8
 ·rw[UV h8,Zbq];have loop:∀(s:List Raw) (i:Nat),l.drop i=s→i≤l.length→(s.all (fun r=>jI r m)=true→Lps EX FP (ni l m i) (.out 0) (ni l m l.length))∧(s.all (fun r=>jI r m)=false→∃j:Nat,Lps EX FP (ni l m i) .ret (ni l m j)):=by
   intro s
   induction s with
   |nil =>
    intro i hd hi;have:=YW hd;obtain rfl:i=l.length:=J;exact⟨fun _=>.stop (b76 rfl) (fun h=>by cases h),fun h=>by cases h⟩
   |cons x s ih =>
    intro i hd hi;obtain⟨hx,hd',hlt⟩:=XE hd;obtain⟨i1,i2⟩:=ih (i+1) hd' J;cases hf:jI x m with
    |true =>
     rw[List.all_cons,hf,Zbq];refine⟨fun h=>.more (a2J hx h8 hf) (i1 h),fun h=>?_⟩;obtain⟨j,hj⟩:=i2 h;exact⟨j,.more (a2J hx h8 hf) hj⟩
    |false =>
     rw[List.all_cons,hf,Zb6];exact⟨fun h=>(by cases h),fun _=>⟨i,.stop (b77 hx hf) (fun h=>by cases h)⟩⟩
  obtain⟨l1,l2⟩:=loop l 0 rfl (ww _);cases ha:l.all (fun r=>jI r m) with
  |true =>
   have l1:=l1 ha;exact pW [.av (inA l.length),yF] [.inv [0,1,4,5] 0 (.out 0) (ni l m l.length)] [(vi ↑l.length)=(vi (↑(List.map Raw.enc l).length)),Bk .gtr 3 7 8 ↑l.length bF,_] func6 ⟨fG _,dA (WF J),l1.tri,Z⟩
  |false =>
   obtain⟨j,hj⟩:=l2 ha;exact pW [.av (inA l.length),yF] [.inv [0,1,4,5] 0 (.ret) (ni l m j)] [(vi ↑l.length)=(vi (↑(List.map Raw.enc l).length)),Bk .gtr 3 7 8 ↑l.length bF,_] func6 ⟨fG _,dA (WF J),hj.tri,Z⟩
 ·rw[WF h8,Zb6];exact pV [.av (inA l.length),yT] [(vi ↑l.length)=(vi (↑(List.map Raw.enc l).length)),Bk .gtr 3 7 8 ↑l.length bT] func6 ⟨fG _,dA (UV J),Z⟩
theorem bP.cast{P:Program}{G:World→Prop}{f:FuncId}{args:List AV}{xs xs':List (Option Bx)}{r r':AV}(h:bP P G f args xs r xs')(hr:∀(M:Mm) (w:World) (v:Value),RV M w r v→RV M w r' v):bP P G f args xs r' xs' :=
 ⟨h.1,fun X M w vs hG hS ha=>(h.2 X M w vs hG hS ha).mono fun _ _ ⟨v,M',h1,h2,h3,h4,h5⟩=>⟨v,M',h1,h2,h3,h4,hr _ _ _ h5⟩⟩
theorem RV.nilRow{M:Mm}{w:World}{v:Value}(h:RV M w .nil v):RV M w (.dt (.row [])) v:=by
 have e:v=.slice none 0 0:=h;rw[e];exact .nil _ _
abbrev rV:aa1:=[[.val (str x8),.row []]]
theorem a7i:l7 61 [] (.dt (.row rV)):=pV [] [] func61 trivial
theorem b0E:l7 187 [.dt (.row rV),stA x8] (.o7 [.agg [stA x8,.dt (.row [])],o6 true]) :=
 pW (nK 4 []) [.run 1] [] func187 trivial
theorem a7j{w:aa0}(h0:1≤w.length)(h1:w.length≤40):l7 126 [.dt (.row rV),stA x8,stA w] (.o7 [y7 x8 w,inA 0]) :=
 pW [.av (.o7 [.agg [stA x8,.dt (.row [])],o6 true]),.av (inA w.length),yF,.av (inA w.length),yF,.no,.no] [.run 1] [_,(vi ↑w.length)=(vi (↑w.length)),Bk .lss 3 21 1 ↑w.length bF,(vi ↑w.length)=(vi (↑w.length)),Bk .gtr 3 25 40 ↑w.length bF] func126 ⟨b0E,gU _,F8 (WF J),gU _,dA (WF J),Z⟩
abbrev eF(all:List y8.Tok)(i:Int):Option Bx:=some (.cells [.dt (.row rV),stA x8,JC all,inA i])
theorem pX{all:List y8.Tok}{i:Nat}{t:y8.Tok}(h:all[i]?=some t):E5 (all.map dI) (i:Int) 5 (dI t):=⟨Int.natCast_nonneg _,by
 rw[Int.toNat_natCast,Zag,h];rfl,rfl⟩
abbrev qp(t:y8.Tok):AV:=.pin ((dI t).map .dt)
theorem b3m{all:List y8.Tok}{i p:Nat}{d:Int}{w e:aa0}(h:all[i]?=some ⟨5,p,w,e⟩)(hl:all.length≤10000):F7 100 [.ptr 0 0,inA d] [eF all i] (.o7 [.agg [inA 1,stA w,stA e,stA [],stA [],stA [],.nil],bY]) [eF all ((i+1:Nat):Int)] :=
 sW 1 [0] (.av (qp ⟨5,p,w,e⟩)::nK 4 [.av (inA ((i+1:Nat):Int))]) [] [E5 (List.map dI all) ↑i 5 ([(.val (vi ({ kind:=5,pos:=p,text:=w,den:=e:y8.Tok }.kind))),(.val (vi (↑{ kind:=5,pos:=p,text:=w,den:=e:y8.Tok }.pos))),(.val (str [])),(.val (Value.string ({ data:={ kind:=5,pos:=p,text:=w,den:=e:y8.Tok }.text.toArray:ByteArray }))),(.val (Value.string ({ data:={ kind:=5,pos:=p,text:=w,den:=e:y8.Tok }.den.toArray:ByteArray })))]),Bk .add 3 43 1 ↑i (vi (↑(i+1)))] func100 ⟨pX h,N8 J J (by have:=(Pi.1 h).1;omega),Z⟩
theorem b3n{all:List y8.Tok}{i p:Nat}{d:Int}{w e:aa0}(h:all[i]?=some ⟨6,p,w,e⟩)(hl:all.length≤10000)(h0:1≤w.length)(h1:w.length≤40):F7 100 [.ptr 0 0,inA d] [eF all i] (.o7 [x9 ⟨2,[],[],x8,w,[],[]⟩,bY]) [eF all ((i+1:Nat):Int)] :=
 sW 1 [0] (.av (qp ⟨6,p,w,e⟩)::nK 6 [.av (inA ((i+1:Nat):Int)),.no,.av (.o7 [y7 x8 w,inA 0]),.no,.av (x9 ⟨2,[],[],x8,w,[],[]⟩)]) [] [E5 (List.map dI all) ↑i 5 ([(.val (vi ({ kind:=6,pos:=p,text:=w,den:=e:y8.Tok }.kind))),(.val (vi (↑{ kind:=6,pos:=p,text:=w,den:=e:y8.Tok }.pos))),(.val (str [])),(.val (Value.string ({ data:={ kind:=6,pos:=p,text:=w,den:=e:y8.Tok }.text.toArray:ByteArray }))),(.val (Value.string ({ data:={ kind:=6,pos:=p,text:=w,den:=e:y8.Tok }.den.toArray:ByteArray })))]),Bk .add 3 71 1 ↑i (vi (↑(i+1))),l7 126 [(.dt (.row [[(.val (str x8)),(.row [])]])),(stA x8),(.dt (.val (Value.string ({ data:={ kind:=6,pos:=p,text:=w,den:=e:y8.Tok }.text.toArray:ByteArray }))))] (.o7 [(y7 x8 w),(inA 0)]),l7 59 [(y7 x8 w)] (x9 ({ kind:=2,num:=[],den:=[],sp:=x8,sn:=w,text:=[],pair:=[]:Ob }))] func100 ⟨pX h,N8 J J (by have:=(Pi.1 h).1;omega),a7j h0 h1,DI _ _,Z⟩
theorem b3o{all:List y8.Tok}{i k p:Nat}{d:Int}{w e:aa0}{o:Ob}(h:all[i]?=some ⟨1,p,w,e⟩)(hl:all.length≤10000)(hd0:0≤d)(hd:d≤200)(hs:F7 127 [.ptr 0 0,inA (d+1)] [eF all ((i+1:Nat):Int)] (.o7 [x9 o,bY]) [eF all k]):F7 100 [.ptr 0 0,inA d] [eF all i] (.o7 [x9 o,bY]) [eF all k] :=
 sW 1 [0] (.av (qp ⟨1,p,w,e⟩)::nK 6 [yF,.av (inA ((i+1:Nat):Int)),.no,.av (inA (d+1))]) [.P5 32 3 [0] (.o7 [x9 o,bY]) [eF all k]] [E5 (List.map dI all) ↑i 5 ([(.val (vi ({ kind:=1,pos:=p,text:=w,den:=e:y8.Tok }.kind))),(.val (vi (↑{ kind:=1,pos:=p,text:=w,den:=e:y8.Tok }.pos))),(.val (str [])),(.val (Value.string ({ data:={ kind:=1,pos:=p,text:=w,den:=e:y8.Tok }.text.toArray:ByteArray }))),(.val (Value.string ({ data:={ kind:=1,pos:=p,text:=w,den:=e:y8.Tok }.den.toArray:ByteArray })))]),Bk .gtr 3 104 200 d bF,Bk .add 3 113 1 ↑i (vi (↑(i+1))),Bk .add 3 139 1 d (vi (d+1)),_] func100 ⟨pX h,dA (WF J),N8 J J (by have:=(Pi.1 h).1;omega),N8 rfl J J,hs,Z⟩
theorem PD(o:Ob):S9 7 [D9 o]:=by
 intro x hx;rw[ut]at hx;subst hx;refine⟨rfl,fun d hd=>?_⟩;simp only[Zao,ZaO,or_false]at hd;rcases hd with rfl | rfl | rfl | rfl | rfl | rfl | rfl <;> rfl
abbrev qJ:Option Bx:=some (.cells [inA 0,stA [],stA [],stA [],stA [],stA [],.nil])
abbrev Uu:Option Bx:=some (.cells [inA 0,inA 0])
abbrev Uw(o:Ob):Option Bx:=some (.cells [inA o.kind,stA o.num,stA o.den,stA o.sp,stA o.sn,stA o.text,.dt (.row (o.pair.map Ob.enc))])
abbrev Lm(all:List y8.Tok)(i:Int)(last:Ob):List (Option Bx):=[eF all i,qJ,Uu,Uw last]
abbrev lsS(all:List y8.Tok)(i d:Int)(es:aa1):AS:=⟨stt 124 [(0,.ptr 0 0),(1,inA d),(4,.ptr 1 0),(5,.ptr 2 0),(6,.own 4 es.length),(7,.ptr 3 0)],Lm all i U6++[some (.buf 37 7 es)]⟩
abbrev Ux(all:List y8.Tok)(i d:Int):AS:=⟨stt 124 [(0,.ptr 0 0),(1,inA d),(4,.ptr 1 0),(5,.ptr 2 0),(6,.nil),(7,.ptr 3 0)],Lm all i U6⟩
noncomputable abbrev lsB:Code:=V5 (ai f127) [1,1,1,0,0,0]
theorem b78{all:List y8.Tok}{i k:Nat}{d:Int}{es:aa1}{t:y8.Tok}{o:Ob}(h:all[i]?=some t)(h2:t.kind≠2)(h3:t.kind≠3)(he:es.length≤10000)(ho:F7 100 [.ptr 0 0,inA d] [eF all i] (.o7 [x9 o,bY]) [eF all k]):D7 (H9 1) lsB (lsS all i d es) .I4 (lsS all k d (es++[D9 o])) :=
 tW [.av (qp t),yT,.av (qp t),yF,.no,.av (.un)] [.P5 16 2 [0] (.o7 [x9 o,bY]) [eF all k]] [0,1,4,5,6,7] 5 [E5 (List.map dI all) ↑i 5 ([(.val (vi t.kind)),(.val (vi ↑t.pos)),(.val (str [])),(.val (str t.text)),(.val (str t.den))]),Bk .neq 3 25 2 t.kind bT,E5 (List.map dI all) ↑i 5 ([(.val (vi t.kind)),(.val (vi ↑t.pos)),(.val (str [])),(.val (str t.text)),(.val (str t.den))]),Bk .eql 3 37 3 t.kind bF,F7 100 [AV.ptr 0 0,AV.dt (Dt.val (vi d))] [some (Bx.cells [AV.dt (Dt.row rV),AV.dt (Dt.val (str x8)),AV.dt (Dt.row (List.map dI all)),AV.dt (Dt.val (vi ↑i))])] (AV.o7 [x9 o,bY]) [eF all ↑k],(es.length)=(es.length),X8 112 ((es++[[Dt.val (vi o.kind),Dt.val (str o.num),Dt.val (str o.den),Dt.val (str o.sp),Dt.val (str o.sn),Dt.val (str o.text),Dt.row (List.map Ob.enc o.pair)]]).length),S9 7 [D9 o]]     ⟨pX h,H7 (by simp[h2]),pX h,F6 (WF h3),ho,rfl,ig J (by simp;omega),PD o,Z⟩
theorem b79{all:List y8.Tok}{i:Nat}{d:Int}{es:aa1}{t:y8.Tok}(h:all[i]?=some t)(h2:t.kind=2):D7 (H9 1) lsB (lsS all i d es) (.out 0) (lsS all i d es) :=
 tW [.av (qp t),yF] [] [0,1,4,5,6,7] 5 [E5 (List.map dI all) ↑i 5 ([(.val (vi t.kind)),(.val (vi ↑t.pos)),(.val (str [])),(.val (str t.text)),(.val (str t.den))]),Bk .neq 3 25 2 t.kind bF]     ⟨pX h,H7 (by simp[h2]),Z⟩
abbrev Uy(all:List y8.Tok)(i d:Int)(es:aa1):AS:=⟨stt 124 [(0,.ptr 0 0),(1,inA d),(4,.ptr 1 0),(5,.ptr 2 0),(6,.dt (.row es)),(7,.ptr 3 0)],Lm all i U6++[some (.ay es)]⟩
abbrev sS(all:List y8.Tok)(i:Int)(last:Ob)(es:aa1)(j:Int):AS:=⟨stt 124 [(4,.ptr 1 0),(5,.ptr 2 0),(6,.dt (.row es)),(7,.ptr 3 0),(13,inA j)],Lm all i last⟩
noncomputable abbrev Lr:Code:=V5 (ai f127) [1,1,1,1,1,0,1,0,0]
theorem b8a{all:List y8.Tok}{i:Int}{last o o2:Ob}{es:aa1}{j:Nat}(hx:es[j]?=some (D9 o))(hl:es.length≤10000)(hc:l7 69 [x9 o,x9 last] (x9 o2)):D7 (H9 1) Lr (sS all i last es j) .I4 (sS all i o2 es ((j:Int) - 1)) :=
 tW [yT,.av (.pin ((D9 o).map .dt)),.av (x9 o2),.av (inA ((j:Int) - 1))] [] [4,5,6,7,13] 4 [Bk .geq 3 112 0 ↑j bT,E5 es ↑j 7 (D9 o),l7 69 [(x9 o),(x9 last)] (x9 o2),Bk .sub 3 114 1 ↑j (vi (↑j - 1))]     ⟨Z7 (UV J),⟨J,by rw[Int.toNat_natCast];exact hx,rfl⟩,hc,dO rfl J (by have:=(Pi.1 hx).1;omega),Z⟩
theorem b8b{all:List y8.Tok}{i:Int}{last:Ob}{es:aa1}{j:Int}(hj:j < 0):D7 (H9 1) Lr (sS all i last es j) (.out 3) (sS all i last es j) :=
 tW [yF] [] [4,5,6,7,13] 4 [Bk .geq 3 112 0 j bF]     ⟨Z7 (WF J),Z⟩
theorem b0F{all:List y8.Tok}{i:Int}{l:List Tr}(hl:l.length≤10000):∀(j:Nat),j≤l.length→Lps (H9 1) Lr (sS all i (Tr.list (l.drop j)).ob (G7 l) ((j:Int) - 1)) (.out 3) (sS all i (Tr.list l).ob (G7 l) (-1)):=by
 intro j
 induction j with
 |zero =>
  intro _;rw[Zb5];exact .stop (b8b J) (fun h=>by cases h)
 |succ j ih =>
  intro hj;have hx:(G7 l)[j]?=some (D9 (l[j]'J).ob):=by
   unfold G7;rw[Zag,Za2 J];rfl
  have hc:=Ik (l[j]'J).ob (Tr.list (l.drop (j+1))).ob;have e:jY (l[j]'J).ob (Tr.list (l.drop (j+1))).ob=(Tr.list (l.drop j)).ob:=by
   rw[ZaT (show j < l.length by omega)]
   rfl
  rw[e]at hc;have h1:=b8a (all:=all) (i:=i) hx (by unfold G7;rw[EQ];omega) hc;rw[show (((j+1:Nat):Int) - 1)=(j:Int) by omega]
  exact .more h1 (ih J)
theorem b3p{all:List y8.Tok}{i k:Nat}{d:Int}{o:Ob}{es:aa1}(h1:D7 (H9 1) (.loop lsB) (Ux all i d) (.out 0) (Uy all k d es))(hk:k≤10000)(he:es.length≤10000)(h2:D7 (H9 1) (.loop Lr) (sS all ((k+1:Nat):Int) U6 es ((es.length:Int) - 1)) (.out 3) (sS all ((k+1:Nat):Int) o es (-1))):F7 127 [.ptr 0 0,inA d] [eF all i] (.o7 [x9 o,bY]) [eF all ((k+1:Nat):Int)] :=
 sW 1 [0] [.av (x9 U6),.av (inA ((k+1:Nat):Int)),.av (inA es.length),.av (inA ((es.length:Int) - 1))] [.inv [0,1,4,5,6,7] 4 (.out 0) (Uy all k d es),.inv [4,5,6,7,13] 4 (.out 3) (sS all ((k+1:Nat):Int) o es (-1))] [_,_,Bk .add 3 105 1 ↑k (vi (↑(k+1))),(vi ↑es.length)=(vi ↑es.length),Bk .sub 3 110 1 ↑es.length (vi (↑es.length - 1)),_] func127 ⟨ry,h1,N8 J J J,rfl,dO rfl J J,h2,Z⟩
namespace y8
theorem a1F(d:Nat)(ts:List Tok):mZ 0 d ts=none:=by rw[mZ.eq_def]
theorem b5q(d:Nat)(ts:List Tok):oQ 0 d ts=none:=by rw[oQ.eq_def]
theorem b5r(f d:Nat):mZ f d []=none:=by cases f <;> rw[mZ.eq_def]
theorem b5s(f d:Nat):oQ f d []=none:=by cases f <;> rw[oQ.eq_def]
theorem a1G(f d:Nat)(t:Tok)(r:List Tok):mZ (f+1) d (t::r)=(if t.kind=5 then some (.num (numOf t.text),r)
   else if t.kind=6 then some (.sym x8 t.text,r)
   else if t.kind=1∧d≤200 then match oQ f (d+1) r with
    |some (l,r')=>some (Tr.list l,r')
    |none=>none
   else none):=by rw[mZ.eq_def];rfl
theorem b5t(f d:Nat)(t:Tok)(r:List Tok):oQ (f+1) d (t::r)=(if t.kind=2 then some ([],r)
   else match mZ f d (t::r) with
    |some (x,r1)=>match oQ f d r1 with
     |some (l,r2)=>some (x::l,r2)
     |none=>none
    |none=>none):=by rw[oQ.eq_def];rfl
end y8
def Ah(t:y8.Tok):Bool:=(!decide (t.kind=5) || (t.den == [49] && (t.text == [48] || t.text == [49] || t.text == [45,49]))) && (!decide (t.kind=6) || (decide (1≤t.text.length) && decide (t.text.length≤40)))
theorem b3q{w:aa0}(h:(w == [48] || w == [49] || w == [45,49])=true):(Tr.num (y8.numOf w)).ob=⟨1,w,[49],[],[],[],[]⟩:=by
 simp only[Bool.or_eq_true,beq_iff_eq]at h;rcases h with (rfl | rfl) | rfl <;> decide +kernel
theorem a8C{f d:Nat}{t:y8.Tok}{ts:List y8.Tok}{y:Tr×List y8.Tok}(h:y8.mZ f d (t::ts)=some y):t.kind≠3:=by
 cases f with
 |zero=>rw[y8.a1F]at h;cases h
 |succ f =>
  rw[y8.a1G]at h;intro e;rw[e]at h;simp at h
theorem drop_one{α:Type}{l:List α}{i:Nat}{t:α}{r:List α}(h:l.drop i=t::r):l[i]?=some t∧l.drop (i+1)=r∧i < l.length:=by
 have h1:l[i]?=some t:=by rw[←Zak,h];rfl
 exact⟨h1,by rw[←Zaj,h];rfl,(Pi.1 h1).1⟩
def ObP(all:List y8.Tok)(f:Nat):Prop:=∀(d i:Nat) (x:Tr) (r:List y8.Tok),y8.mZ f d (all.drop i)=some (x,r)→d≤300→∃k,i < k∧k≤all.length∧r=all.drop k∧F7 100 [.ptr 0 0,inA d] [eF all i] (.o7 [o9 x,bY]) [eF all k]
def LsP(all:List y8.Tok)(f:Nat):Prop:=∀(d i:Nat) (l:List Tr) (r:List y8.Tok) (es:aa1),y8.oQ f d (all.drop i)=some (l,r)→d≤300→es.length≤i→∃k,i≤k∧k < all.length∧r=all.drop (k+1)∧es.length+l.length≤k∧Lps (H9 1) lsB (lsS all i d es) (.out 0) (lsS all k d (es++G7 l))
theorem b8c{all:List y8.Tok}(hl:all.length≤5000)(hok:∀t∈all,Ah t=true):∀f,ObP all f∧LsP all f:=by
 intro f
 induction f with
 |zero=>exact⟨fun d i x r h _=>(by rw[y8.a1F]at h;cases h),fun d i l r es h _ _=>(by rw[y8.b5q]at h;cases h)⟩
 |succ f ih =>
  obtain⟨ihO,ihL⟩:=ih;refine⟨fun d i x r h hd=>?_,fun d i l r es h hd he=>?_⟩
  ·cases hts:all.drop i with
   |nil=>rw[hts,y8.b5r]at h;cases h
   |cons t ts =>
    rw[hts,y8.a1G]at h;obtain⟨ht,hd1,hlt⟩:=drop_one hts;have hk:=hok t (Za5 ht);obtain⟨tk,tp,tw,td⟩:=t;unfold Ah at hk;simp only at hk h;by_cases h5:tk=5
    ·subst h5;rw[Za0 rfl]at h;cases h;simp only[decide_true,Bool.not_true,Bool.false_or,AC]at hk;obtain⟨⟨k1,k2⟩,_⟩:=hk;rw[beq_iff_eq]at k1;subst k1;refine⟨i+1,J,J,hd1.symm,(b3m ht J).cast fun M w v hv=>?_⟩;show RV M w (.o7 [x9 (Tr.num (y8.numOf tw)).ob,bY]) v;rw[b3q k2];obtain⟨vs,rfl,u0,us0,rfl,⟨ws,rfl,w0,vs0,rfl,a0,w1,vs1,rfl,a1,w2,vs2,rfl,a2,w3,vs3,rfl,a3,w4,vs4,rfl,a4,w5,vs5,rfl,a5,w6,vs6,rfl,a6,a7⟩,b1⟩:=hv;exact⟨_,rfl,_,_,rfl,⟨_,rfl,w0,_,rfl,a0,w1,_,rfl,a1,w2,_,rfl,a2,w3,_,rfl,a3,w4,_,rfl,a4,w5,_,rfl,a5,w6,_,rfl,RV.nilRow a6,a7⟩,b1⟩
    rw[lw h5]at h;by_cases h6:tk=6
    ·subst h6;rw[Za0 rfl]at h;cases h;simp only[decide_true,Bool.not_true,Bool.false_or,AC,Za3]at hk;exact⟨i+1,J,J,hd1.symm,b3n ht J hk.2.1 hk.2.2⟩
    rw[lw h6]at h;by_cases h1:tk=1∧d≤200
    ·rw[Za0 h1]at h;obtain⟨h1,Aq⟩:=h1;subst h1;split at h
     ·rename_i l r' hpl;cases h;rw[←hd1]at hpl;obtain⟨k,g1,g2,g3,g4,g5⟩:=ihL (d+1) (i+1) l _ [] hpl J (ww _);have g6:D7 (H9 1) (.loop lsB) (Ux all ((i+1:Nat):Int) ((d+1:Nat):Int)) (.out 0) (lsS all k ((d+1:Nat):Int) (G7 l)):=D7.aS 6 37 7 (by show 6 < 124;omega) rfl g5.tri;have g7:D7 (H9 1) (.loop lsB) (Ux all ((i+1:Nat):Int) ((d+1:Nat):Int)) (.out 0) (Uy all k ((d+1:Nat):Int) (G7 l)):=D7.Fh 6 4 (T:=37) (kk:=7) (by show 6 < 124;omega) rfl rfl g6;have hln:(G7 l).length=l.length:=EQ ..;have g8:=(b0F (all:=all) (i:=((k+1:Nat):Int)) (l:=l) (by rw[List.length_nil]at g4;omega) l.length (NE _)).tri;rw[List.drop_length,←hln]at g8;have g9:=b3p g7 J (by rw[hln];rw[List.length_nil]at g4;omega) g8;exact⟨k+1,J,J,g3,b3o ht J J J g9⟩
     ·cases h
    ·rw[lw h1]at h;cases h
  ·cases hts:all.drop i with
   |nil=>rw[hts,y8.b5s]at h;cases h
   |cons t ts =>
    rw[hts,y8.b5t]at h;obtain⟨ht,hd1,hlt⟩:=drop_one hts;by_cases h2:t.kind=2
    ·rw[Za0 h2]at h;cases h;refine⟨i,NE _,hlt,hd1.symm,by simpa using he,?_⟩;rw[show es++G7 []=es from ZaI _]
     exact .stop (b79 ht h2) (fun h=>by cases h)
    ·rw[lw h2]at h;split at h
     ·rename_i x r1 hpo;split at h
      ·rename_i l' r2 hpl;cases h;have h3:=a8C hpo;rw[←hts]at hpo;obtain⟨k1,a1,a2,a3,a4⟩:=ihO d i x r1 hpo hd;rw[a3]at hpl;obtain⟨k,g1,g2,g3,g4,g5⟩:=ihL d k1 l' _ (es++[D9 x.ob]) hpl hd (by rw[Za4,Zaw];omega);rw[Za4,Zaw]at g4;rw[Zah]at g5;exact⟨k,J,g2,g3,by rw[Za1];omega,.more (b78 ht h2 h3 J a4) g5⟩
      ·cases h
     ·cases h
namespace y8
theorem b5u(f:Nat)(t:Tok)(r:List Tok):lL (f+1) (t::r)=(if t.kind=0 then some []
   else match mZ f 0 (t::r) with
    |some (x,r1)=>match lL f r1 with
     |some l=>some (x::l)
     |none=>none
    |none=>none):=by rw[lL.eq_def];rfl
theorem b5v(f:Nat):lL f []=none:=by cases f <;> rw[lL.eq_def]
theorem b5w(ts:List Tok):lL 0 ts=none:=by rw[lL.eq_def]
def vM:Tr→Bool
 |.num q=>decide (q.num.natAbs < 10000) && decide (q.den < 10000)
 |.sym p n=>decide (p.length≤1000) && decide (n.length≤1000)
 |.txt s=>decide (s.length≤1000)
 |.cons a d=>vM a && vM d
theorem Qx:∀{t:Tr},vM t=true→t.Ok 10000
 |.num q,h=>by
  unfold vM at h;simp only[AC,Za3]at h;exact Tr.Ok.mono (k:=4) (t:=.num q) O ⟨h.1,h.2,O⟩
 |.sym p n,h=>by
  unfold vM at h;simp only[AC,Za3]at h;exact⟨J,J⟩
 |.txt s,h=>by
  unfold vM at h;simp only[Za3]at h;show s.length≤100000;omega
 |.cons a d,h=>by
  unfold vM at h;simp only[AC]at h;exact⟨Qx h.1,Qx h.2⟩
end y8
abbrev rfX(all:List y8.Tok)(i:Int):List (Option Bx):=[Uu,Uu,eF all i]
abbrev sU(all:List y8.Tok)(i:Int)(es:aa1):AS:=⟨stt 97 [(7,.ptr 0 0),(10,.ptr 2 0),(11,.own 3 es.length)],rfX all i++[some (.buf 37 7 es)]⟩
abbrev Ua(all:List y8.Tok)(i:Int):AS:=⟨stt 97 [(7,.ptr 0 0),(10,.ptr 2 0),(11,.nil)],rfX all i⟩
noncomputable abbrev FQ:Code:=V5 (ai f60) [1,1,1,1,1,0,0,0]
theorem b8d{all:List y8.Tok}{i k:Nat}{n:Int}{es:aa1}{t:y8.Tok}{o:Ob}(h:all[i]?=some t)(h0:t.kind≠0)(he:es.length < 100)(ho:F7 100 [.ptr 0 0,inA 0] [eF all i] (.o7 [x9 o,bY]) [eF all k])(hn:l7 101 [x9 o] (inA n))(hn3:n≤3000):D7 EX FQ (sU all i es) .I4 (sU all k (es++[D9 o])) :=
 tW [.av (qp t),yT,.av (qp t),.av (qp t),.av (inA es.length),yF,.no,.av (inA n),yF,.av (.un)] [.P5 11 1 [2] (.o7 [x9 o,bY]) [eF all k]] [7,10,11] 4 [E5 (List.map dI all) ↑i 5 ([(.val (vi t.kind)),(.val (vi ↑t.pos)),(.val (str [])),(.val (str t.text)),(.val (str t.den))]),Bk .neq 3 40 0 t.kind bT,E5 (List.map dI all) ↑i 5 ([(.val (vi t.kind)),(.val (vi ↑t.pos)),(.val (str [])),(.val (str t.text)),(.val (str t.den))]),E5 (List.map dI all) ↑i 5 ([(.val (vi t.kind)),(.val (vi ↑t.pos)),(.val (str [])),(.val (str t.text)),(.val (str t.den))]),(vi ↑es.length)=(vi ↑es.length),Bk .geq 3 65 100 ↑es.length bF,F7 100 [AV.ptr 0 0,AV.dt (Dt.val (vi 0))] [some (Bx.cells [AV.dt (Dt.row rV),AV.dt (Dt.val (str x8)),AV.dt (Dt.row (List.map dI all)),AV.dt (Dt.val (vi ↑i))])] (AV.o7 [x9 o,bY]) [eF all ↑k],l7 101 [(x9 o)] (inA n),Bk .gtr 3 87 3000 n bF,(es.length)=(es.length),X8 112 ((es++[[Dt.val (vi o.kind),Dt.val (str o.num),Dt.val (str o.den),Dt.val (str o.sp),Dt.val (str o.sn),Dt.val (str o.text),Dt.row (List.map Ob.enc o.pair)]]).length),S9 7 [D9 o]]     ⟨pX h,H7 (by simp[h0]),pX h,pX h,rfl,Z7 (WF J),ho,hn,dA (WF J),rfl,ig J (by simp;omega),PD o,Z⟩
theorem b8e{all:List y8.Tok}{i:Nat}{es:aa1}{t:y8.Tok}(h:all[i]?=some t)(h0:t.kind=0):D7 EX FQ (sU all i es) (.out 0) (sU all i es) :=
 tW [.av (qp t),yF] [] [7,10,11] 4 [E5 (List.map dI all) ↑i 5 ([(.val (vi t.kind)),(.val (vi ↑t.pos)),(.val (str [])),(.val (str t.text)),(.val (str t.den))]),Bk .neq 3 40 0 t.kind bF]     ⟨pX h,H7 (by simp[h0]),Z⟩
theorem b0G{all:List y8.Tok}(hl:all.length≤5000)(hok:∀t∈all,Ah t=true):∀(f i:Nat) (l:List Tr) (es:aa1),y8.lL f (all.drop i)=some l→(∀x∈l,x.Ok 10000∧x.ob.nodes≤3000)→es.length+l.length≤99→∃k:Nat,Lps EX FQ (sU all i es) (.out 0) (sU all k (es++G7 l)):=by
 intro f
 induction f with
 |zero=>intro i l es h;rw[y8.b5w]at h;cases h
 |succ f ih =>
  intro i l es h hx hlen;cases hts:all.drop i with
  |nil=>rw[hts,y8.b5v]at h;cases h
  |cons t ts =>
   rw[hts,y8.b5u]at h;obtain⟨ht,hd1,hlt⟩:=drop_one hts;by_cases h0:t.kind=0
   ·rw[Za0 h0]at h;cases h;refine⟨i,?_⟩;rw[show es++G7 []=es from ZaI _]
    exact .stop (b8e ht h0) (fun h=>by cases h)
   ·rw[lw h0]at h;split at h
    ·rename_i x r1 hpo;split at h
     ·rename_i l' hpl;cases h;rw[←hts]at hpo;obtain⟨k1,a1,a2,a3,a4⟩:=(b8c hl hok f).1 0 i x r1 hpo J;rw[a3]at hpl;rw[Za1]at hlen;obtain⟨g1,g2⟩:=hx x (PP ..);have hP:=Te.Nw x.ob;obtain⟨k,g5⟩:=ih k1 l' (es++[D9 x.ob]) hpl (fun y hy=>hx y (lm _ hy)) (by rw[Za4,Zaw];omega);rw[Zah]at g5;exact⟨k,.more (b8d ht h0 J a4 (WR (g1.wf O)) J) g5⟩
     ·cases h
    ·cases h
theorem b3r{s:aa0}{all:List y8.Tok}{k:Nat}{es:aa1}(ht:l7 98 [stA s] (.o7 [JC all,bY]))(hl:D7 EX (.loop FQ) (Ua all 0) (.out 0) (sU all k es)):l7 60 [.dt (.row rV),stA x8,stA s] (.o7 [.dt (.row es),bY]) :=
 pW [.av (.o7 [JC all,bY]),.no] [.inv [7,10,11] 3 (.out 0) (sU all k es)] [_,_,(es.length)=(es.length)] func60 ⟨ht,hl,rfl,Z⟩
theorem b3s{s:aa0}{l:List Tr}{f:Nat}(hs:FH s)(hw:∀t∈y8.tk 0 s,t.kind=5∨t.kind=6→y8.vJ t.text=true)(hok:∀t∈y8.tk 0 s,Ah t=true)(hn:(y8.tk 0 s).length≤5000)(hp:y8.lL f (y8.tk 0 s)=some l)(hx:∀x∈l,x.Ok 10000∧x.ob.nodes≤3000)(hl:l.length≤99):l7 60 [.dt (.row rV),stA x8,stA s] (.o7 [rowA l,bY]):=by
 obtain⟨k,g⟩:=b0G hn hok f 0 l [] hp hx (by rw[List.length_nil];omega);have g6:D7 EX (.loop FQ) (Ua (y8.tk 0 s) 0) (.out 0) (sU (y8.tk 0 s) k (G7 l)):=D7.aS 11 37 7 (by show 11 < 97;omega) rfl g.tri;exact b3r (a8w hs hw) g6
theorem b3t:l7 62 [] (stA mD):=pV [] [] func62 trivial
def allB:List y8.Tok:=y8.tk 0 mD
def forms:List Tr:=(y8.lL 3000 allB).getD []
theorem b8f:FH mD:=⟨by decide +kernel,by
 have h:mD.all y8.few=true:=by decide +kernel
 exact Zav.1 h⟩
theorem b3u:∀t∈y8.tk 0 mD,t.kind=5∨t.kind=6→y8.vJ t.text=true:=by
 have h:y8.b2W (y8.tk 0 mD)=true:=by decide +kernel
 intro t ht hk;have:=Zav.1 h t ht
 rwa [Za0 hk]at this
theorem b0H:∀t∈y8.tk 0 mD,Ah t=true:=by
 have h:(y8.tk 0 mD).all Ah=true:=by decide +kernel
 exact Zav.1 h
theorem a8D:(y8.tk 0 mD).length≤5000:=by decide +kernel
theorem a8E:y8.lL 3000 (y8.tk 0 mD)=some forms:=by
 have h:(y8.lL 3000 (y8.tk 0 mD)).isSome=true:=by decide +kernel
 obtain⟨l,hl⟩:=Option.isSome_iff_exists.1 h;unfold forms allB;rw[hl];rfl
theorem WS:forms.length=28:=by decide +kernel
theorem a8F:∀x∈forms,x.Ok 10000∧x.ob.nodes≤3000:=by
 have h:(forms.all fun x=>y8.vM x && decide (x.ob.nodes≤3000))=true:=by decide +kernel
 intro x hx;have:=Zav.1 h x hx;simp only[AC,Za3]at this;exact⟨y8.Qx this.1,this.2⟩
theorem MQ:l7 30 [] (rowA forms):=by
 have h:=b3s b8f b3u b0H a8D a8E a8F (by rw[WS];decide);generalize forms=l at *;exact pV [.av (.dt (.row rV)),.av (stA mD),.av (.o7 [rowA l,bY])] [_,_,_] func30 ⟨a7i,b3t,h,Z⟩
abbrev vN(o:Ob)(es:aa1):AS:=⟨stt 22 [(1,.ptr 0 0),(4,.own 1 es.length)],[Uw o,some (.buf 37 7 es)]⟩
abbrev it0(o:Ob):AS:=⟨stt 22 [(1,.ptr 0 0),(4,.nil)],[Uw o]⟩
noncomputable abbrev Ls:Code:=V5 (ai f63) [1,1,0,0,0]
theorem b8g{o a d:Ob}{es:aa1}(hc:l7 102 [x9 o] (o6 true))(h0:E5 (o.pair.map Ob.enc) 0 7 (D9 a))(h1:E5 (o.pair.map Ob.enc) 1 7 (D9 d))(he:es.length≤10000):D7 EX Ls (vN o es) .I4 (vN d (es++[D9 a])) :=
 tW [yT,.av (.pin ((D9 a).map .dt)),.av (.un),.av (.pin ((D9 d).map .dt))] [] [1,4] 2 [l7 102 [(x9 o)] (o6 true),E5 (List.map Ob.enc o.pair) 0 7 (D9 a),(es.length)=(es.length),X8 112 ((es++[[Dt.val (vi a.kind),Dt.val (str a.num),Dt.val (str a.den),Dt.val (str a.sp),Dt.val (str a.sn),Dt.val (str a.text),Dt.row (List.map Ob.enc a.pair)]]).length),S9 7 [D9 a],E5 (List.map Ob.enc o.pair) 1 7 (D9 d)]     ⟨hc,h0,rfl,ig J (by simp;omega),PD a,h1,Z⟩
theorem b8h{o:Ob}{es:aa1}(hc:l7 102 [x9 o] (o6 false)):D7 EX Ls (vN o es) (.out 0) (vN o es) :=
 tW [yF] [] [1,4] 2 [l7 102 [(x9 o)] (o6 false)]     ⟨hc,Z⟩
theorem b0I(a d:Tr):E5 ((Tr.cons a d).ob.pair.map Ob.enc) 0 7 (D9 a.ob)∧E5 ((Tr.cons a d).ob.pair.map Ob.enc) 1 7 (D9 d.ob) :=
 ⟨⟨O,congrArg some (Jy a.ob),rfl⟩,⟨O,congrArg some (Jy d.ob),rfl⟩⟩
theorem Za:∀(l:List Tr) (es:aa1),es.length+l.length≤10000→Lps EX Ls (vN (Tr.list l).ob es) (.out 0) (vN U6 (es++G7 l))
 |[],es,_=>by
  rw[show es++G7 []=es from ZaI _]
  exact .stop (b8h ((yV U6 O).b O)) (fun h=>by cases h)
 |a::l,es,h=>by
  rw[Za1]at h;have ih:=Za l (es++[D9 a.ob]) (by rw[Za4,Zaw];omega);rw[Zah]at ih;obtain⟨h0,h1⟩:=b0I a (Tr.list l);exact .more (b8g ((yV (Tr.cons a (Tr.list l)).ob (by show 2≤_;omega)).b (UV ⟨rfl,rfl⟩)) h0 h1 J) ih
theorem b0J:U6.Wf:=.mk _ O O O O O O O O (fun x hx=>by cases hx)
theorem zo{l:List Tr}(hl:l.length≤10000):l7 63 [o9 (Tr.list l)] (.o7 [rowA l,o6 true]):=by
 have h:=(Za l [] (by rw[List.length_nil];omega)).tri;have ht:D7 EX (.loop Ls) (it0 (Tr.list l).ob) (.out 0) (vN U6 (G7 l)):=D7.aS 4 37 7 (by show 4 < 22;omega) rfl h;have hn:=(a8q b0J).b (dh rfl);show l7 _ [x9 (Tr.list l).ob] (.o7 [.dt (.row (G7 l)),o6 true]);generalize (Tr.list l).ob=o at *;generalize G7 l=es at *;exact pW [yT] [.inv [1,4] 1 (.out 0) (vN U6 es)] [_,_,(es.length)=(es.length)] func63 ⟨ht,hn,rfl,Z⟩
theorem wH:∀{x:Tr} {l:List Tr},y8.items x=some l→x=Tr.list l
 |.num _,_,h=>by cases h
 |.txt _,_,h=>by cases h
 |.sym p n,l,h=>by
  rw[y8.items]at h;split at h
  ·rename_i e;cases h;rw[e.1,e.2];rfl
  ·cases h
 |.cons a d,l,h=>by
  rw[y8.items]at h;split at h
  ·rename_i l' hd;cases h;rw[wH hd];rfl
  ·cases h
theorem b0K(n:aa0):l7 222 [stA n] (o9 (.sym x8 n)) :=
 pV [.av (y7 x8 n),.av (o9 (.sym x8 n))] [l7 29 [(stA n)] (y7 x8 n),l7 59 [(y7 x8 n)] (o9 (Tr.sym x8 n))] func222 ⟨O1 n,DI x8 n,Z⟩
theorem b3v{n:aa0}{l:aa1}{a d o:Ob}(h1:l7 222 [stA n] (x9 a))(h2:l7 71 [.dt (.row l)] (x9 d))(h3:l7 69 [x9 a,x9 d] (x9 o)):l7 189 [stA n,.dt (.row l)] (x9 o) :=
 pV [.av (x9 a),.av (x9 d),.av (x9 o)] [_,_,_] func189 ⟨h1,h2,h3,Z⟩
theorem uH(n:aa0){l:List Tr}(hl:l.length≤10000):l7 189 [stA n,rowA l] (o9 (y8.call n l)) :=
 b3v (b0K n) (Dk J) (Ik (Tr.sym x8 n).ob (Tr.list l).ob)
theorem zq(n:aa0){l:List Tr}(hl:l.length≤10000):l7 223 [stA n,rowA l] (o9 (y8.call n l)):=by
 have h:=uH n hl;show l7 _ [stA n,.dt (.row (G7 l))] (x9 (y8.call n l).ob);have h:l7 _ [stA n,.dt (.row (G7 l))] (x9 (y8.call n l).ob):=h;generalize (y8.call n l).ob=o at *;generalize G7 l=es at *;exact pV [.av (x9 o)] [_] func223 ⟨h,Z⟩
theorem rD(x:Tr)(r:List Tr):fU (G7 (x::r)) 7 1 ((G7 (x::r)).length:Int) (G7 r):=by
 refine⟨O,?_,Int.le_refl _,?_,.inr fun y hy=>?_⟩
 ·simp only[G7,ZaC,Za1];omega
 ·rw[Int.toNat_natCast,List.take_length];rfl
 ·obtain⟨t,_,rfl⟩:=List.mem_map.1 hy;rfl
theorem rE(x:Tr)(r:List Tr):E5 (G7 (x::r)) 0 7 (D9 x.ob):=⟨O,rfl,rfl⟩
theorem b3w(x y:Tr)(r:List Tr):E5 (G7 (x::y::r)) 1 7 (D9 y.ob):=⟨O,rfl,rfl⟩
end Go.Proofs.YthhknjlmjefklaaGreatDoor
