/- The maker's objects, the names and arities of the primitives in the reference, and FewAll, for the laws on clauses. -/
import Derived.Test.YtdkehabacmlegaaGreatDoorVN
namespace Go.Proofs.YtdkehabacmlegaaGreatDoor
open Go.Proofs.Tryz
open Go.RowKit
abbrev UK(w:bi):List Dt:=[.val (str w)]
abbrev I5:List (bi×Nat):=[([105,102],3),([101,113,117,97,108],2),([99,111,110,115],2),([99,97,114],1),([99,100,114],1),([99,111,110,115,112],1),([115,121,109,98,111,108,112],1),([115,116,114,105,110,103,112],1),([114,97,116,105,111,110,97,108,112],1),([105,110,116,101,103,101,114,112],1),([98,105,110,97,114,121,45,43],2),([98,105,110,97,114,121,45,42],2),([117,110,97,114,121,45,45],1),([117,110,97,114,121,45,47],1),([60],2),([110,117,109,101,114,97,116,111,114],1),([100,101,110,111,109,105,110,97,116,111,114],1),([102,108,111,111,114],1),([115,121,109,98,111,108,45,110,97,109,101],1),([115,121,109,98,111,108,45,112,97,99,107,97,103,101,45,110,97,109,101],1),([105,110,116,101,114,110],2),([115,116,114,105,110,103,45,97,112,112,101,110,100],2),([115,116,114,105,110,103,45,108,101,110,103,116,104],1),([115,116,114,105,110,103,45,98,121,116,101],2),([98,121,116,101,45,115,116,114,105,110,103],1)]
abbrev eX(x:bi×Nat):List Dt:=[.val (str o6),.val (str x.1)]
abbrev aC(x:bi×Nat):List Dt:=[.val (str x.1),.val (.int .i64 x.2)]
theorem Qc{α:Type}{l:List α}{i:Nat}(h:l.drop i=[]):l.length≤i:=by
 have:=congrArg List.length h;rw[List.length_drop,List.length_nil]at this;omega
theorem Oi{α:Type}{l r:List α}{i:Nat}{b:α}(h:l.drop i=b::r):l[i]?=some b∧l.drop (i+1)=r∧i < l.length:=by
 have h1:(l.drop i)[0]?=some b:=by rw[h];rfl
 rw[List.getElem?_drop,Nat.add_zero]at h1;exact⟨h1,by rw[←List.drop_drop,h];rfl,(List.getElem?_eq_some_iff.1 h1).1⟩
theorem tq(t:bi):j5 77 [stA t] (l5 (.txt t)) :=
 ⟨O3 func77 rfl (by kernel_rfl),fun ok w vs ht hv=>by
  obtain rfl:=hv.dA;exact (Zn w t).mono fun _ _ h=>U8.pure (r:=jw t) rfl h⟩
abbrev J2(ts:List Tr):AV:=.dt (.row (ts.map fun t=>y8 t.ob))
theorem tZ{a b:bi}(ha:a.length≤1100000)(hb:b.length≤1100000):j5 74 [stA a,stA b] (l5 (.num (Rat.divInt (j4.r9 a) (j4.r9 b)))) :=
 ⟨O3 func74 rfl (by kernel_rfl),fun ok w vs ht hv=>by
  obtain⟨u,us,rfl,h1,h2⟩:=hv;obtain rfl:=RL.dA h2;rw[Rd.Q9 h1];exact (Md a b w ha hb).mono fun _ _ h=>U8.pure (r:=R6 (Rat.divInt (j4.r9 a) (j4.r9 b))) rfl h⟩
theorem Qd(n:Int)(h0:-9223372036854775808≤n)(h1:n≤9223372036854775807):j5 75 [j3 n] (stA (Lib.itoa n)) :=
 ⟨O3 func75 rfl (by kernel_rfl),fun ok w vs ht hv=>by
  obtain rfl:=hv.dA;refine (KY n w ht.1 h0 h1).mono ?_;rintro e w' ⟨rfl,h2⟩;exact⟨_,rfl,h2,.val _⟩⟩
theorem a6r(l:bi):j5 58 [stA l] (o9 O9 l):=pV [] [] func58 trivial
theorem a3C{k:Nat}{s:bi}(h:vZ[k]?=some s):z8 (vZ.map UK) (k:Int) 1 [.val (str s)]:=⟨Int.natCast_nonneg _,by
 rw[Int.toNat_natCast,List.getElem?_map,h];rfl,rfl⟩
theorem lI{n:Int}{k:Nat}{s:bi}(hk:n % 13=k)(h9:k < 9)(hs:vZ[k]?=some s):j5 76 [j3 n] (o9 O9 s) :=
 pV [.no,.no,.av (j3 k),.no,yT,.av (.pin [stA s]),.av (o9 O9 s)] [j5 10 [(j3 n),(j3 13)] (j3 ↑k),Bt .lss 3 12 14 ↑k 9 bT,z8 (vZ.map UK) (k:Int) 1 [.val (str s)],j5 58 [(stA s)] (o9 O9 s)] func76 ⟨(aB n 13 O O).val (by rw[hk]),C9 (decide_eq_true J),a3C hs,a6r s,Z⟩
theorem a8n(n:Int):j5 76 [j3 n] (o9 (aY n).1 (aY n).2):=by
 obtain⟨k,hk,hlt⟩:∃k:Nat,n % 13=k∧k < 13:=⟨(n % 13).toNat,J,J⟩;have e:aY n=tT.getD k (O9,[]):=by unfold aY;rw[hk];rfl
 rw[e]
 match k,hlt,hk with
 |0,_,hk=>exact lI hk O rfl
 |1,_,hk=>exact lI hk O rfl
 |2,_,hk=>exact lI hk O rfl
 |3,_,hk=>exact lI hk O rfl
 |4,_,hk=>exact lI hk O rfl
 |5,_,hk=>exact lI hk O rfl
 |6,_,hk=>exact lI hk O rfl
 |7,_,hk=>exact lI hk O rfl
 |8,_,hk=>exact lI hk O rfl
 |9,_,hk=>exact pV (.no::.no::.av (j3 9)::nK 4 [.av (o9 o6 R4)]) [j5 10 [(j3 n),(j3 13)] (j3 9),j5 36 [(stA [110,105,108])] (o9 o6 R4)] func76 ⟨(aB n 13 O O).val (by rw[hk];rfl),O7 _,Z⟩
 |10,_,hk=>exact pV (.no::.no::.av (j3 10)::nK 7 [.av (o9 o6 [116])]) [j5 10 [(j3 n),(j3 13)] (j3 10),j5 36 [(stA [116])] (o9 o6 [116])] func76 ⟨(aB n 13 O O).val (by rw[hk];rfl),O7 _,Z⟩
 |11,_,hk=>exact pV (.no::.no::.av (j3 11)::nK 10 [.av (o9 o6 [99,97,114])]) [j5 10 [(j3 n),(j3 13)] (j3 11),j5 36 [(stA [99,97,114])] (o9 o6 [99,97,114])] func76 ⟨(aB n 13 O O).val (by rw[hk];rfl),O7 _,Z⟩
 |12,_,hk=>exact pV (.no::.no::.av (j3 12)::nK 10 [.av (o9 o6 [113,117,111,116,101])]) [j5 10 [(j3 n),(j3 13)] (j3 12),j5 36 [(stA [113,117,111,116,101])] (o9 o6 [113,117,111,116,101])] func76 ⟨(aB n 13 O O).val (by rw[hk];rfl),O7 _,Z⟩
theorem Hd{r x:Raw}{i:Nat}(h:r.l[i]?=some x):j5 79 [G9 r,j3 i] (G9 x) :=
 pV [.av (j3 r.l.length),yT,.av (.pin ((encR x).map .dt))] [(vi ↑r.l.length)=(vi (↑(List.map Raw.enc r.l).length)),Bt .lss 3 5 8 ↑i ↑r.l.length bT,z8 (List.map Raw.enc r.l) ↑i 4 (encR x)] func79 ⟨Z7 _,C9 (decide_eq_true (by have:=(List.getElem?_eq_some_iff.1 h).1;omega)),lH h,Z⟩
theorem FY{r:Raw}{i:Nat}(h:r.l.length≤i):j5 79 [G9 r,j3 i] (G9 ⟨0,0,[],[]⟩) :=
 pV [.av (j3 r.l.length),yF] [(vi ↑r.l.length)=(vi (↑(List.map Raw.enc r.l).length)),Bt .lss 3 5 8 ↑i ↑r.l.length bF] func79 ⟨Z7 _,C9 (decide_eq_false J),Z⟩
def prt(r:Raw)(i:Nat):Raw:=r.l.getD i ⟨0,0,[],[]⟩
theorem TD(r:Raw)(i:Nat):j5 79 [G9 r,j3 i] (G9 (prt r i)):=by
 unfold prt;rw[List.getD_eq_getElem?_getD];rcases Nat.lt_or_ge i r.l.length with h | h
 ·rw[List.getElem?_eq_getElem h];exact Hd (List.getElem?_eq_getElem h)
 ·rw[List.getElem?_eq_none h];exact FY h
theorem Ru(r:Raw)(i:Nat):U3 (prt r i)=(r.l.map U3).getD i jq:=by
 unfold prt;rw[List.getD_eq_getElem?_getD,List.getD_eq_getElem?_getD,List.getElem?_map];cases r.l[i]? with
 |some x=>rfl
 |none=>rfl
theorem wK{ts:List Tr}(h:ts.length≤1000000):j5 80 [J2 ts] (l5 (Tr.list ts)) :=
 ⟨O3 func80 rfl (by kernel_rfl),fun ok w vs ht hv=>by
  obtain⟨v,us,rfl,h1,h2⟩:=hv;obtain rfl:us=[]:=h2;have h1':Rd ok w v (.row (ts.map fun t=>y8 t.ob)):=h1;obtain⟨A,n,c,rfl,hn⟩:=Rd.slice h1';have e:(ts.map fun t=>y8 t.ob)=(ts.map Tr.ob).map Ob.enc:=by
   rw[List.map_map];exact List.map_congr_left fun t _=>(BX t.ob).symm
  rw[e]at h1';have hl:=h1'.len;rw[List.length_map,List.length_map]at hl;have hL:=(Zu ok (ts.map Tr.ob) A n c w h1' J).mono fun _ _ h=>ji.pure h
  rw[←Tr.Pm]at hL;exact hL⟩
theorem TE{r:Raw}(hk:r.kind % 8=0):j5 39 [G9 r] (l5 (.num ((r.n % 2001 - 1000:Int):Rat))):=pV [.av (j3 0),.no,.av (j3 (r.n % 2001)),.av (j3 (r.n % 2001 - 1000)),.av (l5 (.num ((r.n % 2001 - 1000:Int):Rat)))] [j5 10 [(j3 r.kind),(j3 8)] (j3 0),j5 10 [(j3 r.n),(j3 2001)] (j3 (r.n % 2001)),Bk .sub 3 13 1000 (r.n % 2001) (vi (r.n % 2001 - 1000)),j5 56 [(j3 (r.n % 2001 - 1000))] (l9 ((Tr.num ↑(r.n % 2001 - 1000)).ob))] func39 ⟨(aB r.kind 8 O O).val (by rw[hk]),aB _ _ O O,bE rfl J J,wV _ J J,Z⟩
theorem a8o{r:Raw}(hk:r.kind % 8=1):j5 39 [G9 r] (l5 (.num ((r.n % 2001 - 1000:Int):Rat))):=pV [.av (j3 1),.no,.no,.av (j3 (r.n % 2001)),.av (j3 (r.n % 2001 - 1000)),.av (l5 (.num ((r.n % 2001 - 1000:Int):Rat)))] [j5 10 [(j3 r.kind),(j3 8)] (j3 1),j5 10 [(j3 r.n),(j3 2001)] (j3 (r.n % 2001)),Bk .sub 3 13 1000 (r.n % 2001) (vi (r.n % 2001 - 1000)),j5 56 [(j3 (r.n % 2001 - 1000))] (l9 ((Tr.num ↑(r.n % 2001 - 1000)).ob))] func39 ⟨(aB r.kind 8 O O).val (by rw[hk]),aB _ _ O O,bE rfl J J,wV _ J J,Z⟩
theorem a8p{r:Raw}(hk:r.kind % 8=3):j5 39 [G9 r] (l5 (.sym (aY r.n).1 (aY r.n).2)):=pV (.av (j3 3)::nK 4 [.av (o9 (aY r.n).1 (aY r.n).2),.av (l5 (.sym (aY r.n).1 (aY r.n).2))]) [j5 10 [(j3 r.kind),(j3 8)] (j3 3),j5 76 [(j3 r.n)] (o9 (aY r.n).fst (aY r.n).snd),j5 73 [(o9 (aY r.n).fst (aY r.n).snd)] (l9 ((Tr.sym (aY r.n).fst (aY r.n).snd).ob))] func39 ⟨(aB r.kind 8 O O).val (by rw[hk]),a8n r.n,wW _ _,Z⟩
theorem a8q{r:Raw}(hk:r.kind % 8=4):j5 39 [G9 r] (l5 (.txt r.s)):=pV (.av (j3 4)::nK 5 [.av (l5 (.txt r.s))]) [j5 10 [(j3 r.kind),(j3 8)] (j3 4),j5 77 [(stA r.s)] (l5 (Tr.txt r.s))] func39 ⟨(aB r.kind 8 O O).val (by rw[hk]),tq r.s,Z⟩
theorem b05{r:Raw}{x y:bi}{q:Rat}(hk:r.kind % 8=2)(hs:r.s.length≤12)(hx:j5 75 [j3 (r.n % 41 - 20)] (stA x))(hy:j5 75 [j3 (1+r.s.length)] (stA y))(hr:j5 74 [stA x,stA y] (l5 (.num q))):j5 39 [G9 r] (l5 (.num q)) :=
 pV [.av (j3 2),.no,.no,.no,.av (j3 (r.n % 41)),.av (j3 (r.n % 41 - 20)),.av (stA x),.av (j3 r.s.length),.av (j3 (1+r.s.length)),.av (stA y),.av (l5 (.num q))] [j5 10 [(j3 r.kind),(j3 8)] (j3 2),j5 10 [(j3 r.n),(j3 41)] (j3 (r.n % 41)),Bk .sub 3 20 20 (r.n % 41) (vi (r.n % 41 - 20)),_,(vi ↑r.s.length)=(vi (↑r.s.length)),Bn .add 3 (.const (vi 1)) (.tmp 25) (vi 1) (vi ↑r.s.length) (vi (1+↑r.s.length)),_,_] func39 ⟨(aB r.kind 8 O O).val (by rw[hk]),aB _ _ O O,bE rfl J J,hx,Bq _,I4 rfl J J,hy,hr,Z⟩
theorem a8r{r:Raw}(hk:r.kind % 8=2)(hs:r.s.length≤12):j5 39 [G9 r] (l5 (.num (Rat.divInt (r.n % 41 - 20) (1+r.s.length)))):=by
 have h:=tZ (a:=Lib.itoa (r.n % 41 - 20)) (b:=Lib.itoa (1+r.s.length:Int)) (Nat.le_trans (gG _ (k:=2) O J) O) (Nat.le_trans (gG _ (k:=2) O J) O);rw[j4.K5,j4.K5]at h;exact b05 hk hs (Qd _ J J) (Qd _ J J) h
theorem a8s{r:Raw}{a b:Tr}(hk:r.kind % 8=5)(ha:j5 39 [G9 (prt r 0)] (l5 a))(hb:j5 39 [G9 (prt r 1)] (l5 b)):j5 39 [G9 r] (l5 (.cons a b)) :=
 pV (.av (j3 5)::nK 6 [.av (G9 (prt r 0)),.av (l5 a),.av (G9 (prt r 1)),.av (l5 b),.av (l5 (.cons a b))]) [j5 10 [(j3 r.kind),(j3 8)] (j3 5),j5 79 [(G9 r),(j3 0)] (.agg [(j3 ((prt r 0).kind)),(j3 ((prt r 0).n)),(stA (prt r 0).s),(.dt (.row (List.map Raw.enc (prt r 0).l)))]),_,j5 79 [(G9 r),(j3 1)] (.agg [(j3 ((prt r 1).kind)),(j3 ((prt r 1).n)),(stA (prt r 1).s),(.dt (.row (List.map Raw.enc (prt r 1).l)))]),_,j5 78 [(l9 a.ob),(l9 b.ob)] (l5 (a.cons b))] func39 ⟨(aB r.kind 8 O O).val (by rw[hk]),TD r 0,ha,TD r 1,hb,AQ a.ob b.ob,Z⟩
abbrev D8(ts:List Tr):bv:=ts.map fun t=>y8 t.ob
abbrev rz(r:Raw):AS:=⟨stt 67 [(1,.ptr 0 0),(2,.ptr 1 0),(3,.nil),(4,j3 0)],[some (.cells [j3 r.kind,j3 r.n,stA r.s,.dt (.row (r.l.map Raw.enc))]),some (.cells [j3 0,stA [],stA [],stA [],stA [],stA [],.nil])]⟩
abbrev jK(r:Raw)(es:bv)(n:Nat)(i:Int):AS:=⟨stt 67 [(1,.ptr 0 0),(2,.ptr 1 0),(3,.own 2 n),(4,j3 i)],[some (.cells [j3 r.kind,j3 r.n,stA r.s,.dt (.row (r.l.map Raw.enc))]),some (.cells [j3 0,stA [],stA [],stA [],stA [],stA [],.nil]),some (.buf 48 7 es)]⟩
noncomputable abbrev rA:Code:=M9 (P6 f39) [1,1,1,0,1,0,0]
theorem Qe(t:Tr):L6 7 [y8 t.ob]:=by
 intro x hx;rw[List.mem_singleton]at hx;subst hx;refine⟨rfl,fun d hd=>?_⟩;simp only[List.mem_cons,List.not_mem_nil,or_false]at hd;rcases hd with rfl | rfl | rfl | rfl | rfl | rfl | rfl <;> rfl
theorem oqA{r x:Raw}{t:Tr}(hx:r.l[0]?=some x)(hl:r.l.length≤8)(ht:j5 39 [G9 x] (l5 t)):y7 EX rA (rz r) .F4 (jK r [y8 t.ob] 1 ((1:Nat):Int)) :=
 tW [.av (j3 r.l.length),yT,.av (.pin ((encR x).map .dt)),.av (l5 t),.av (.un),.av (j3 ((1:Nat):Int))] [] [1,2,3,4] 3 [Value.int .i64 (r.l.length:Int)=Value.int .i64 ((r.l.map Raw.enc).length:Int),aS prog .lss 3 (.tmp 49) (.tmp 52) (.int .i64 0) (.int .i64 (r.l.length:Int)) (.bool true),z8 (r.l.map Raw.enc) 0 4 (encR x),j5 39 [G9 x] (l5 t),P9 112 1,L6 7 [y8 t.ob],aS prog .add 3 (.tmp 54) (.const (.int .i64 1)) (.int .i64 0) (.int .i64 1) (.int .i64 ((1:Nat):Int))]     ⟨Z7 _,C9 (decide_eq_true (by have:=(List.getElem?_eq_some_iff.1 hx).1;omega)),lH hx,ht,⟨O,O⟩,Qe t,I4 J J J,Z⟩
theorem Ww{r:Raw}:r.l=[]→y7 EX rA (rz r) (.out 1) (rz r):=fun h =>
 tW [.av (j3 r.l.length),yF] [] [1,2,3,4] 2 [(vi ↑r.l.length)=(vi (↑(List.map Raw.enc r.l).length)),Bt .lss 3 49 52 0 ↑r.l.length bF]     ⟨Z7 _,C9 (decide_eq_false (by rw[h];decide)),Z⟩
theorem oqN{r x:Raw}{t:Tr}{es:bv}{n i:Nat}(hx:r.l[i]?=some x)(hl:r.l.length≤8)(hn:es.length=n)(hi:n≤8)(ht:j5 39 [G9 x] (l5 t)):y7 EX rA (jK r es n i) .F4 (jK r (es++[y8 t.ob]) (es++[y8 t.ob]).length ((i+1:Nat):Int)) :=
 tW [.av (j3 r.l.length),yT,.av (.pin ((encR x).map .dt)),.av (l5 t),.av (.un),.av (j3 ((i+1:Nat):Int))] [] [1,2,3,4] 3 [Value.int .i64 (r.l.length:Int)=Value.int .i64 ((r.l.map Raw.enc).length:Int),aS prog .lss 3 (.tmp 49) (.tmp 52) (.int .i64 (i:Int)) (.int .i64 (r.l.length:Int)) (.bool true),z8 (r.l.map Raw.enc) (i:Int) 4 (encR x),j5 39 [G9 x] (l5 t),es.length=n,P9 112 (es++[y8 t.ob]).length,L6 7 [y8 t.ob],aS prog .add 3 (.tmp 54) (.const (.int .i64 1)) (.int .i64 (i:Int)) (.int .i64 1) (.int .i64 ((i+1:Nat):Int))]     ⟨Z7 _,C9 (decide_eq_true (by have:=(List.getElem?_eq_some_iff.1 hx).1;omega)),lH hx,ht,hn,⟨by rw[List.length_append,hn];exact Nat.le_trans (show n+1≤9 by omega) O,by rw[List.length_append,hn];exact Nat.le_trans (Nat.mul_le_mul_right _ (show n+1≤9 by omega)) O⟩,Qe t,I4 J J (by have:=(List.getElem?_eq_some_iff.1 hx).1;omega),Z⟩
theorem oqF{r:Raw}{es:bv}{n i:Nat}(hi:r.l.length≤i):y7 EX rA (jK r es n i) (.out 1) (jK r es n i) :=
 tW [.av (j3 r.l.length),yF] [] [1,2,3,4] 3 [(vi ↑r.l.length)=(vi (↑(List.map Raw.enc r.l).length)),Bt .lss 3 49 52 ↑i ↑r.l.length bF]     ⟨Z7 _,C9 (decide_eq_false J),Z⟩
theorem a8t{r:Raw}(h8:r.l.length≤8)(hf:∀x∈r.l,j5 39 [G9 x] (l5 (U3 x))):∀(s:List Raw) (i n:Nat) (es:bv),r.l.drop i=s→i≤r.l.length→es.length=n→n+s.length≤8→∃j:Nat,J7 EX rA (jK r es n i) (.out 1) (jK r (es++D8 (s.map U3)) (es++D8 (s.map U3)).length j):=by
 intro s
 induction s with
 |nil =>
  intro i n es hd hi hn _;have:=Qc hd;refine⟨i,?_⟩;simp only[List.map_nil,D8,List.append_nil];rw[hn];exact .stop (oqF this) (fun h=>by cases h)
 |cons x s ih =>
  intro i n es hd hi hn h9;obtain⟨hx,hd',hlt⟩:=Oi hd;rw[List.length_cons]at h9;obtain⟨j,hj⟩:=ih (i+1) (es++[y8 (U3 x).ob]).length (es++[y8 (U3 x).ob]) hd' J rfl (by rw[List.length_append,hn];show n+1+_≤8;omega);refine⟨j,.more (oqN hx h8 hn J (hf x (List.mem_of_getElem? hx))) ?_⟩;have e:es++[y8 (U3 x).ob]++D8 (s.map U3)=es++D8 ((x::s).map U3):=by
   rw[List.append_assoc];rfl
  rw[e]at hj;exact hj
theorem a6s{r:Raw}{ts:List Tr}(hk:r.kind % 8=6)(hr:r.l=[])(hts:ts=[]):j5 39 [G9 r] (l5 (Tr.list ts)):=by
 subst hts;have hl:=(J7.stop (Ww hr) (fun h=>by cases h)).K3;have h2:=wK (ts:=[]) (Nat.zero_le _);exact pW (.av (j3 6)::nK 6 [.av (l5 (Tr.list []))]) [.inv [1,2,3,4] 2 (.out 1) (rz r)] [j5 10 [j3 r.kind,j3 8] (j3 6),_,_] func39 ⟨(aB r.kind 8 O O).val (by rw[hk]),hl,h2,Z⟩
theorem a8u{r:Raw}{ts:List Tr}{j:Nat}(hk:r.kind % 8=6)(hl:y7 EX (.loop rA) (rz r) (.out 1) (jK r (D8 ts) (D8 ts).length j))(h8:ts.length≤8):j5 39 [G9 r] (l5 (Tr.list ts)) :=
 pW (.av (j3 6)::nK 6 [.av (l5 (Tr.list ts))]) [.inv [1,2,3,4] 3 (.out 1) (jK r (D8 ts) (D8 ts).length j)] [j5 10 [j3 r.kind,j3 8] (j3 6),_,j5 80 [J2 ts] (l5 (Tr.list ts)),(D8 ts).length=(D8 ts).length] func39 ⟨(aB r.kind 8 O O).val (by rw[hk]),hl,wK J,rfl,Z⟩
theorem a6t{r:Raw}{ts:List Tr}(hk:r.kind % 8=7)(hr:r.l=[])(hts:ts=[]):j5 39 [G9 r] (l5 (Tr.list ts)):=by
 subst hts;have hl:=(J7.stop (Ww hr) (fun h=>by cases h)).K3;have h2:=wK (ts:=[]) (Nat.zero_le _);exact pW (.av (j3 7)::nK 6 [.av (l5 (Tr.list []))]) [.inv [1,2,3,4] 2 (.out 1) (rz r)] [j5 10 [j3 r.kind,j3 8] (j3 7),_,_] func39 ⟨(aB r.kind 8 O O).val (by rw[hk]),hl,h2,Z⟩
theorem a8v{r:Raw}{ts:List Tr}{j:Nat}(hk:r.kind % 8=7)(hl:y7 EX (.loop rA) (rz r) (.out 1) (jK r (D8 ts) (D8 ts).length j))(h8:ts.length≤8):j5 39 [G9 r] (l5 (Tr.list ts)) :=
 pW (.av (j3 7)::nK 6 [.av (l5 (Tr.list ts))]) [.inv [1,2,3,4] 3 (.out 1) (jK r (D8 ts) (D8 ts).length j)] [j5 10 [j3 r.kind,j3 8] (j3 7),_,j5 80 [J2 ts] (l5 (Tr.list ts)),(D8 ts).length=(D8 ts).length] func39 ⟨(aB r.kind 8 O O).val (by rw[hk]),hl,wK J,rfl,Z⟩
theorem a3D{r:Raw}(hk:r.kind % 8=6∨r.kind % 8=7)(h8:r.l.length≤8)(hf:∀x∈r.l,j5 39 [G9 x] (l5 (U3 x))):j5 39 [G9 r] (l5 (Tr.list (r.l.map U3))):=by
 have go:=a8t h8 hf
 match hr:r.l,h8,hf,go with
 |[],_,_,_ =>
  rcases hk with hk | hk
  ·exact a6s hk hr rfl
  ·exact a6t hk hr rfl
 |x::s,h8,hf,go =>
  rw[List.length_cons]at h8;obtain⟨j,hj⟩:=go s 1 1 [y8 (U3 x).ob] rfl I rfl J;have h1:=oqA (r:=r) (x:=x) (by rw[hr];rfl) (by rw[hr,List.length_cons];omega) (hf x (List.mem_cons_self ..));have hl:=(J7.more h1 hj).K3;have e:[y8 (U3 x).ob]++D8 (s.map U3)=D8 ((x::s).map U3):=rfl;rw[e]at hl;have l8:((x::s).map U3).length≤8:=by rw[List.length_map,List.length_cons];omega
  rcases hk with hk | hk
  ·exact a8u hk hl l8
  ·exact a8v hk hl l8
theorem Rv:∀(N:Nat) (r:Raw),r.size≤N→Fit r→j5 39 [G9 r] (l5 (U3 r)):=by
 intro N
 induction N with
 |zero=>intro r h;have:=r.size_pos;omega
 |succ N ih =>
  intro r hN hf;have kid:∀x∈r.l,j5 39 [G9 x] (l5 (U3 x)):=fun x hx=>ih x (by have:=Raw.tK hx;omega) (hf.kids hx)
  have hp:∀i,j5 39 [G9 (prt r i)] (l5 (U3 (prt r i))):=fun i=>by
   unfold prt;rw[List.getD_eq_getElem?_getD];rcases Nat.lt_or_ge i r.l.length with h | h
   ·rw[List.getElem?_eq_getElem h];exact kid _ (List.getElem_mem h)
   ·rw[List.getElem?_eq_none h];exact TE (r:=⟨0,0,[],[]⟩) rfl
  rw[Bf];unfold mkK;have hb:=Int.emod_nonneg r.kind (show (8:Int)≠0 by decide);have hb':=Int.emod_lt_of_pos r.kind (show (0:Int) < 8 by decide);split
  ·rename_i h;rcases h with h | h
   ·exact TE h
   ·exact a8o h
  ·split
   ·rename_i h;exact a8r h hf.s
   ·split
    ·rename_i h;exact a8p h
    ·split
     ·rename_i h;exact a8q h
     ·split
      ·rename_i h;rw[←Ru,←Ru];exact a8s h (hp 0) (hp 1)
      ·exact a3D J (by have:=hf.l;omega) kid
theorem aG:j5 116 [] (.dt (.row (I5.map aC))):=pV [] [] func116 trivial
theorem xc:j5 95 [o9 o6 [105,102]] (.l7 [j3 3,j6 true]):=pV [.no,.av (.dt (.row (I5.map aC)))] [_] func95 ⟨aG,Z⟩
theorem He:j5 95 [o9 o6 [101,113,117,97,108]] (.l7 [j3 2,j6 true]):=pV [.no,.av (.dt (.row (I5.map aC)))] [_] func95 ⟨aG,Z⟩
theorem Hf:j5 95 [o9 o6 [99,111,110,115]] (.l7 [j3 2,j6 true]):=pV [.no,.av (.dt (.row (I5.map aC)))] [_] func95 ⟨aG,Z⟩
theorem Hg:j5 95 [o9 o6 [99,97,114]] (.l7 [j3 1,j6 true]):=pV [.no,.av (.dt (.row (I5.map aC)))] [_] func95 ⟨aG,Z⟩
theorem Hl:j5 95 [o9 o6 [99,100,114]] (.l7 [j3 1,j6 true]):=pV [.no,.av (.dt (.row (I5.map aC)))] [_] func95 ⟨aG,Z⟩
theorem Hm:j5 95 [o9 o6 [99,111,110,115,112]] (.l7 [j3 1,j6 true]):=pV [.no,.av (.dt (.row (I5.map aC)))] [_] func95 ⟨aG,Z⟩
theorem Ho:j5 95 [o9 o6 [115,121,109,98,111,108,112]] (.l7 [j3 1,j6 true]):=pV [.no,.av (.dt (.row (I5.map aC)))] [_] func95 ⟨aG,Z⟩
theorem Hq:j5 95 [o9 o6 [115,116,114,105,110,103,112]] (.l7 [j3 1,j6 true]):=pV [.no,.av (.dt (.row (I5.map aC)))] [_] func95 ⟨aG,Z⟩
theorem Hr:j5 95 [o9 o6 [114,97,116,105,111,110,97,108,112]] (.l7 [j3 1,j6 true]):=pV [.no,.av (.dt (.row (I5.map aC)))] [_] func95 ⟨aG,Z⟩
theorem Ht:j5 95 [o9 o6 [105,110,116,101,103,101,114,112]] (.l7 [j3 1,j6 true]):=pV [.no,.av (.dt (.row (I5.map aC)))] [_] func95 ⟨aG,Z⟩
theorem FZ:j5 95 [o9 o6 [98,105,110,97,114,121,45,43]] (.l7 [j3 2,j6 true]):=pV [.no,.av (.dt (.row (I5.map aC)))] [_] func95 ⟨aG,Z⟩
theorem Ga:j5 95 [o9 o6 [98,105,110,97,114,121,45,42]] (.l7 [j3 2,j6 true]):=pV [.no,.av (.dt (.row (I5.map aC)))] [_] func95 ⟨aG,Z⟩
theorem Gb:j5 95 [o9 o6 [117,110,97,114,121,45,45]] (.l7 [j3 1,j6 true]):=pV [.no,.av (.dt (.row (I5.map aC)))] [_] func95 ⟨aG,Z⟩
theorem Gc:j5 95 [o9 o6 [117,110,97,114,121,45,47]] (.l7 [j3 1,j6 true]):=pV [.no,.av (.dt (.row (I5.map aC)))] [_] func95 ⟨aG,Z⟩
theorem Gf:j5 95 [o9 o6 [60]] (.l7 [j3 2,j6 true]):=pV [.no,.av (.dt (.row (I5.map aC)))] [_] func95 ⟨aG,Z⟩
theorem Gg:j5 95 [o9 o6 [110,117,109,101,114,97,116,111,114]] (.l7 [j3 1,j6 true]):=pV [.no,.av (.dt (.row (I5.map aC)))] [_] func95 ⟨aG,Z⟩
theorem Gh:j5 95 [o9 o6 [100,101,110,111,109,105,110,97,116,111,114]] (.l7 [j3 1,j6 true]):=pV [.no,.av (.dt (.row (I5.map aC)))] [_] func95 ⟨aG,Z⟩
theorem Gi:j5 95 [o9 o6 [102,108,111,111,114]] (.l7 [j3 1,j6 true]):=pV [.no,.av (.dt (.row (I5.map aC)))] [_] func95 ⟨aG,Z⟩
theorem Gj:j5 95 [o9 o6 [115,121,109,98,111,108,45,110,97,109,101]] (.l7 [j3 1,j6 true]):=pV [.no,.av (.dt (.row (I5.map aC)))] [_] func95 ⟨aG,Z⟩
theorem Gl:j5 95 [o9 o6 [115,121,109,98,111,108,45,112,97,99,107,97,103,101,45,110,97,109,101]] (.l7 [j3 1,j6 true]):=pV [.no,.av (.dt (.row (I5.map aC)))] [_] func95 ⟨aG,Z⟩
theorem Gm:j5 95 [o9 o6 [105,110,116,101,114,110]] (.l7 [j3 2,j6 true]):=pV [.no,.av (.dt (.row (I5.map aC)))] [_] func95 ⟨aG,Z⟩
theorem Gn:j5 95 [o9 o6 [115,116,114,105,110,103,45,97,112,112,101,110,100]] (.l7 [j3 2,j6 true]):=pV [.no,.av (.dt (.row (I5.map aC)))] [_] func95 ⟨aG,Z⟩
theorem Gp:j5 95 [o9 o6 [115,116,114,105,110,103,45,108,101,110,103,116,104]] (.l7 [j3 1,j6 true]):=pV [.no,.av (.dt (.row (I5.map aC)))] [_] func95 ⟨aG,Z⟩
theorem Gq:j5 95 [o9 o6 [115,116,114,105,110,103,45,98,121,116,101]] (.l7 [j3 2,j6 true]):=pV [.no,.av (.dt (.row (I5.map aC)))] [_] func95 ⟨aG,Z⟩
theorem Gr:j5 95 [o9 o6 [98,121,116,101,45,115,116,114,105,110,103]] (.l7 [j3 1,j6 true]):=pV [.no,.av (.dt (.row (I5.map aC)))] [_] func95 ⟨aG,Z⟩
theorem Rw:∀{i:Nat} {s:bi} {a:Nat},I5[i]?=some (s,a)→j5 95 [o9 o6 s] (.l7 [j3 (a:Int),j6 true])
 |0,_,_,h=>by cases h;exact xc
 |1,_,_,h=>by cases h;exact He
 |2,_,_,h=>by cases h;exact Hf
 |3,_,_,h=>by cases h;exact Hg
 |4,_,_,h=>by cases h;exact Hl
 |5,_,_,h=>by cases h;exact Hm
 |6,_,_,h=>by cases h;exact Ho
 |7,_,_,h=>by cases h;exact Hq
 |8,_,_,h=>by cases h;exact Hr
 |9,_,_,h=>by cases h;exact Ht
 |10,_,_,h=>by cases h;exact FZ
 |11,_,_,h=>by cases h;exact Ga
 |12,_,_,h=>by cases h;exact Gb
 |13,_,_,h=>by cases h;exact Gc
 |14,_,_,h=>by cases h;exact Gf
 |15,_,_,h=>by cases h;exact Gg
 |16,_,_,h=>by cases h;exact Gh
 |17,_,_,h=>by cases h;exact Gi
 |18,_,_,h=>by cases h;exact Gj
 |19,_,_,h=>by cases h;exact Gl
 |20,_,_,h=>by cases h;exact Gm
 |21,_,_,h=>by cases h;exact Gn
 |22,_,_,h=>by cases h;exact Gp
 |23,_,_,h=>by cases h;exact Gq
 |24,_,_,h=>by cases h;exact Gr
 |_+25,_,_,h=>by cases h
theorem Oj:∀(N:Nat) (r:Raw),r.size≤N→∀m:Int,0≤m→m≤1000→0≤eG r m→Fit r∧eG r m+r.size≤m:=by
 intro N
 induction N with
 |zero=>intro r h;have:=r.size_pos;omega
 |succ N ih =>
  intro r hN m h0 h1 hl;have hr:r.size=Raw.dC r.l+1:=by obtain⟨k,n,s,l⟩:=r;rfl
  rw[Oh]at hl ⊢
  split at hl
  ·omega
  ·rename_i hs;rw[if_neg hs];split at hl
   ·omega
   ·rename_i h6;rw[if_neg h6];rw[a8i J J]at hl ⊢
    have key:∀(l:List Raw) (m:Int),(∀x∈l,x.size≤N)→-1≤m→m≤1000→0≤fP l m→(∀x∈l,Fit x)∧fP l m+Raw.dC l≤m:=by
     intro l
     induction l with
     |nil=>intro m _ _ h1 _;rw[fP];exact⟨(fun x hx=>by cases hx),by rw[Raw.dC];omega⟩
     |cons x r ihr =>
      intro m hsz hm0 hm1 hp;rw[fP]at hp ⊢
      split at hp
      ·rename_i Wx;rw[if_pos Wx];have hx:0≤eG x m:=by
        rcases Int.lt_or_le (eG x m) 0 with h | h
        ·rw[YU h]at hp;omega
        ·exact h
       obtain⟨f1,f2⟩:=ih x (hsz x (List.mem_cons_self ..)) m Wx hm1 hx;obtain⟨g1,g2⟩:=ihr (eG x m) (fun y hy=>hsz y (List.mem_cons_of_mem _ hy)) J J hp;refine⟨fun y hy=>?_,by rw[Raw.dC];omega⟩;rcases List.mem_cons.1 hy with rfl | hy
       ·exact f1
       ·exact g1 y hy
      ·omega
    obtain⟨k1,k2⟩:=key r.l (m - 1) (fun x hx=>by have:=Raw.tK hx;omega) J J hl;exact⟨.mk r J J k1,J⟩
theorem a1p{r:Raw}{m:Int}(h0:0≤m)(h1:m≤1000)(h:gX r m=true):Fit r:=(Oj _ r (Nat.le_refl _) m h0 h1 (of_decide_eq_true h)).1
theorem ZR{r:Raw}{m:Int}(h0:0≤m)(h1:m≤1000)(h:gX r m=true):(r.size:Int)≤m:=by
 have h2:=(Oj _ r (Nat.le_refl _) m h0 h1 (of_decide_eq_true h)).2;have h3:0≤eG r m:=of_decide_eq_true h;omega
theorem a8w{r:Raw}(h:Fit r):(U3 r).Ok 10000:=(a5w r h).mono O
def tu(l:List Raw)(m:Int):Bool:=decide (l.length≤8) && l.all fun r=>gX r m
abbrev uw(l:List Raw):AV:=.dt (.row (l.map Raw.enc))
abbrev iY(l:List Raw)(m i:Int):AS:=⟨stt 22 [(0,uw l),(1,j3 m),(4,j6 false),(5,j3 i)],[]⟩
noncomputable abbrev zw:Code:=M9 (P6 f33) [1,1,0,1,0,0]
theorem UL{l:List Raw}{x:Raw}{i:Nat}{m:Int}(hx:l[i]?=some x)(hl:l.length≤8)(hf:gX x m=true):y7 EX zw (iY l m i) .F4 (iY l m ((i+1:Nat):Int)) :=
 tW [.av (j3 l.length),yT,.av (.pin ((encR x).map .dt)),yT,.av (j3 ((i+1:Nat):Int))] [] [0,1,4,5] 0 [(vi ↑l.length)=(vi (↑(List.map Raw.enc l).length)),Bt .lss 3 9 11 ↑i ↑l.length bT,z8 (List.map Raw.enc l) ↑i 4 (encR x),j5 24 [(G9 x),(j3 m)] (j6 true),Bk .add 3 13 1 ↑i (vi (↑(i+1)))]     ⟨Z7 _,C9 (decide_eq_true (by have:=(List.getElem?_eq_some_iff.1 hx).1;omega)),lH hx,(Tz x m).b hf,I4 J J (by have:=(List.getElem?_eq_some_iff.1 hx).1;omega),Z⟩
theorem b06{l:List Raw}{i:Nat}{m:Int}(hi:i=l.length):y7 EX zw (iY l m i) (.out 0) (iY l m i) :=
 tW [.av (j3 l.length),yF] [] [0,1,4,5] 0 [(vi ↑l.length)=(vi (↑(List.map Raw.enc l).length)),Bt .lss 3 9 11 ↑i ↑l.length bF]     ⟨Z7 _,C9 (decide_eq_false J),Z⟩
theorem b07{l:List Raw}{x:Raw}{i:Nat}{m:Int}(hx:l[i]?=some x)(hf:gX x m=false):y7 EX zw (iY l m i) .ret (iY l m i) :=
 tW [.av (j3 l.length),yT,.av (.pin ((encR x).map .dt)),yF] [] [0,1,4,5] 0 [(vi ↑l.length)=(vi (↑(List.map Raw.enc l).length)),Bt .lss 3 9 11 ↑i ↑l.length bT,z8 (List.map Raw.enc l) ↑i 4 (encR x),j5 24 [(G9 x),(j3 m)] (j6 false)]     ⟨Z7 _,C9 (decide_eq_true (by have:=(List.getElem?_eq_some_iff.1 hx).1;omega)),lH hx,(Tz x m).b hf,Z⟩
theorem Ol(l:List Raw)(m:Int):j5 33 [uw l,j3 m] (j6 (tu l m)):=by
 unfold tu;by_cases h8:l.length≤8
 ·rw[decide_eq_true h8,Bool.true_and];have loop:∀(s:List Raw) (i:Nat),l.drop i=s→i≤l.length→(s.all (fun r=>gX r m)=true→J7 EX zw (iY l m i) (.out 0) (iY l m l.length))∧(s.all (fun r=>gX r m)=false→∃j:Nat,J7 EX zw (iY l m i) .ret (iY l m j)):=by
   intro s
   induction s with
   |nil =>
    intro i hd hi;have:=Qc hd;obtain rfl:i=l.length:=J;exact⟨fun _=>.stop (b06 rfl) (fun h=>by cases h),fun h=>by cases h⟩
   |cons x s ih =>
    intro i hd hi;obtain⟨hx,hd',hlt⟩:=Oi hd;obtain⟨i1,i2⟩:=ih (i+1) hd' J;cases hf:gX x m with
    |true =>
     rw[List.all_cons,hf,Bool.true_and];refine⟨fun h=>.more (UL hx h8 hf) (i1 h),fun h=>?_⟩;obtain⟨j,hj⟩:=i2 h;exact⟨j,.more (UL hx h8 hf) hj⟩
    |false =>
     rw[List.all_cons,hf,Bool.false_and];exact⟨fun h=>(by cases h),fun _=>⟨i,.stop (b07 hx hf) (fun h=>by cases h)⟩⟩
  obtain⟨l1,l2⟩:=loop l 0 rfl (Nat.zero_le _);cases ha:l.all (fun r=>gX r m) with
  |true =>
   have l1:=l1 ha;exact pW [.av (j3 l.length),yF] [.inv [0,1,4,5] 0 (.out 0) (iY l m l.length)] [(vi ↑l.length)=(vi (↑(List.map Raw.enc l).length)),Bk .gtr 3 7 8 ↑l.length bF,_] func33 ⟨Z7 _,Q0 (decide_eq_false J),l1.K3,Z⟩
  |false =>
   obtain⟨j,hj⟩:=l2 ha;exact pW [.av (j3 l.length),yF] [.inv [0,1,4,5] 0 (.ret) (iY l m j)] [(vi ↑l.length)=(vi (↑(List.map Raw.enc l).length)),Bk .gtr 3 7 8 ↑l.length bF,_] func33 ⟨Z7 _,Q0 (decide_eq_false J),hj.K3,Z⟩
 ·rw[decide_eq_false h8,Bool.false_and];exact pV [.av (j3 l.length),yT] [(vi ↑l.length)=(vi (↑(List.map Raw.enc l).length)),Bk .gtr 3 7 8 ↑l.length bT] func33 ⟨Z7 _,Q0 (decide_eq_true J),Z⟩
theorem aK.cast{P:Program}{G:World→Prop}{f:FuncId}{args:List AV}{xs xs':List (Option Bx)}{r r':AV}(h:aK P G f args xs r xs')(hr:∀(M:Mm) (w:World) (v:Value),RV M w r v→RV M w r' v):aK P G f args xs r' xs' :=
 ⟨h.1,fun X M w vs hG hS ha=>(h.2 X M w vs hG hS ha).mono fun _ _ ⟨v,M',h1,h2,h3,h4,h5⟩=>⟨v,M',h1,h2,h3,h4,hr _ _ _ h5⟩⟩
theorem RV.Hu{M:Mm}{w:World}{v:Value}(h:RV M w .nil v):RV M w (.dt (.row [])) v:=by
 have e:v=.slice none 0 0:=h;rw[e];exact .nil _ _
abbrev lY:bv:=[[.val (str o6),.row []]]
theorem ZT:j5 67 [] (.dt (.row lY)):=pV [] [] func67 trivial
theorem a3E:j5 179 [.dt (.row lY),stA o6] (.l7 [.agg [stA o6,.dt (.row [])],j6 true]) :=
 pW (nK 4 []) [.run 1] [] func179 trivial
theorem ZU{w:bi}(h0:1≤w.length)(h1:w.length≤40):j5 131 [.dt (.row lY),stA o6,stA w] (.l7 [o9 o6 w,j3 0]) :=
 pW [.av (.l7 [.agg [stA o6,.dt (.row [])],j6 true]),.av (j3 w.length),yF,.av (j3 w.length),yF,.no,.no] [.run 1] [_,(vi ↑w.length)=(vi (↑w.length)),Bk .lss 3 21 1 ↑w.length bF,(vi ↑w.length)=(vi (↑w.length)),Bk .gtr 3 25 40 ↑w.length bF] func131 ⟨a3E,cO _,C9 (decide_eq_false J),cO _,Q0 (decide_eq_false J),Z⟩
abbrev bD(all:List o8.Tok)(i:Int):Option Bx:=some (.cells [.dt (.row lY),stA o6,Ce all,j3 i])
theorem ko{all:List o8.Tok}{i:Nat}{t:o8.Tok}(h:all[i]?=some t):z8 (all.map aU) (i:Int) 5 (aU t):=⟨Int.natCast_nonneg _,by
 rw[Int.toNat_natCast,List.getElem?_map,h];rfl,rfl⟩
abbrev kI(t:o8.Tok):AV:=.pin ((aU t).map .dt)
theorem a6u{all:List o8.Tok}{i p:Nat}{d:Int}{w e:bi}(h:all[i]?=some ⟨5,p,w,e⟩)(hl:all.length≤10000):C8 111 [.ptr 0 0,j3 d] [bD all i] (.l7 [.agg [j3 1,stA w,stA e,stA [],stA [],stA [],.nil],az]) [bD all ((i+1:Nat):Int)] :=
 sW 1 [0] (.av (kI ⟨5,p,w,e⟩)::nK 4 [.av (j3 ((i+1:Nat):Int))]) [] [z8 (List.map aU all) ↑i 5 ([(.val (vi ({ kind:=5,pos:=p,text:=w,den:=e:o8.Tok }.kind))),(.val (vi (↑{ kind:=5,pos:=p,text:=w,den:=e:o8.Tok }.pos))),(.val (str [])),(.val (Value.string ({ data:={ kind:=5,pos:=p,text:=w,den:=e:o8.Tok }.text.toArray:ByteArray }))),(.val (Value.string ({ data:={ kind:=5,pos:=p,text:=w,den:=e:o8.Tok }.den.toArray:ByteArray })))]),Bk .add 3 43 1 ↑i (vi (↑(i+1)))] func111 ⟨ko h,I4 J J (by have:=(List.getElem?_eq_some_iff.1 h).1;omega),Z⟩
theorem a6v{all:List o8.Tok}{i p:Nat}{d:Int}{w e:bi}(h:all[i]?=some ⟨6,p,w,e⟩)(hl:all.length≤10000)(h0:1≤w.length)(h1:w.length≤40):C8 111 [.ptr 0 0,j3 d] [bD all i] (.l7 [l9 ⟨2,[],[],o6,w,[],[]⟩,az]) [bD all ((i+1:Nat):Int)] :=
 sW 1 [0] (.av (kI ⟨6,p,w,e⟩)::nK 6 [.av (j3 ((i+1:Nat):Int)),.no,.av (.l7 [o9 o6 w,j3 0]),.no,.av (l9 ⟨2,[],[],o6,w,[],[]⟩)]) [] [z8 (List.map aU all) ↑i 5 ([(.val (vi ({ kind:=6,pos:=p,text:=w,den:=e:o8.Tok }.kind))),(.val (vi (↑{ kind:=6,pos:=p,text:=w,den:=e:o8.Tok }.pos))),(.val (str [])),(.val (Value.string ({ data:={ kind:=6,pos:=p,text:=w,den:=e:o8.Tok }.text.toArray:ByteArray }))),(.val (Value.string ({ data:={ kind:=6,pos:=p,text:=w,den:=e:o8.Tok }.den.toArray:ByteArray })))]),Bk .add 3 71 1 ↑i (vi (↑(i+1))),j5 131 [(.dt (.row [[(.val (str o6)),(.row [])]])),(stA o6),(.dt (.val (Value.string ({ data:={ kind:=6,pos:=p,text:=w,den:=e:o8.Tok }.text.toArray:ByteArray }))))] (.l7 [(o9 o6 w),(j3 0)]),j5 73 [(o9 o6 w)] (l9 ({ kind:=2,num:=[],den:=[],sp:=o6,sn:=w,text:=[],pair:=[]:Ob }))] func111 ⟨ko h,I4 J J (by have:=(List.getElem?_eq_some_iff.1 h).1;omega),ZU h0 h1,wW _ _,Z⟩
theorem a6w{all:List o8.Tok}{i k p:Nat}{d:Int}{w e:bi}{o:Ob}(h:all[i]?=some ⟨1,p,w,e⟩)(hl:all.length≤10000)(hd0:0≤d)(hd:d≤200)(hs:C8 132 [.ptr 0 0,j3 (d+1)] [bD all ((i+1:Nat):Int)] (.l7 [l9 o,az]) [bD all k]):C8 111 [.ptr 0 0,j3 d] [bD all i] (.l7 [l9 o,az]) [bD all k] :=
 sW 1 [0] (.av (kI ⟨1,p,w,e⟩)::nK 6 [yF,.av (j3 ((i+1:Nat):Int)),.no,.av (j3 (d+1))]) [.J6 32 3 [0] (.l7 [l9 o,az]) [bD all k]] [z8 (List.map aU all) ↑i 5 ([(.val (vi ({ kind:=1,pos:=p,text:=w,den:=e:o8.Tok }.kind))),(.val (vi (↑{ kind:=1,pos:=p,text:=w,den:=e:o8.Tok }.pos))),(.val (str [])),(.val (Value.string ({ data:={ kind:=1,pos:=p,text:=w,den:=e:o8.Tok }.text.toArray:ByteArray }))),(.val (Value.string ({ data:={ kind:=1,pos:=p,text:=w,den:=e:o8.Tok }.den.toArray:ByteArray })))]),Bk .gtr 3 104 200 d bF,Bk .add 3 113 1 ↑i (vi (↑(i+1))),Bk .add 3 139 1 d (vi (d+1)),_] func111 ⟨ko h,Q0 (decide_eq_false J),I4 J J (by have:=(List.getElem?_eq_some_iff.1 h).1;omega),I4 rfl J J,hs,Z⟩
theorem Gs(o:Ob):L6 7 [y8 o]:=by
 intro x hx;rw[List.mem_singleton]at hx;subst hx;refine⟨rfl,fun d hd=>?_⟩;simp only[List.mem_cons,List.not_mem_nil,or_false]at hd;rcases hd with rfl | rfl | rfl | rfl | rfl | rfl | rfl <;> rfl
abbrev rC:Option Bx:=some (.cells [j3 0,stA [],stA [],stA [],stA [],stA [],.nil])
abbrev KJ:Option Bx:=some (.cells [j3 0,j3 0])
abbrev KL(o:Ob):Option Bx:=some (.cells [j3 o.kind,stA o.num,stA o.den,stA o.sp,stA o.sn,stA o.text,.dt (.row (o.pair.map Ob.enc))])
abbrev Dz(all:List o8.Tok)(i:Int)(last:Ob):List (Option Bx):=[bD all i,rC,KJ,KL last]
abbrev rD(all:List o8.Tok)(i d:Int)(es:bv):AS:=⟨stt 124 [(0,.ptr 0 0),(1,j3 d),(4,.ptr 1 0),(5,.ptr 2 0),(6,.own 4 es.length),(7,.ptr 3 0)],Dz all i M5++[some (.buf 48 7 es)]⟩
abbrev KM(all:List o8.Tok)(i d:Int):AS:=⟨stt 124 [(0,.ptr 0 0),(1,j3 d),(4,.ptr 1 0),(5,.ptr 2 0),(6,.nil),(7,.ptr 3 0)],Dz all i M5⟩
noncomputable abbrev lsB:Code:=M9 (P6 f132) [1,1,1,0,0,0]
theorem b08{all:List o8.Tok}{i k:Nat}{d:Int}{es:bv}{t:o8.Tok}{o:Ob}(h:all[i]?=some t)(h2:t.kind≠2)(h3:t.kind≠3)(he:es.length≤10000)(ho:C8 111 [.ptr 0 0,j3 d] [bD all i] (.l7 [l9 o,az]) [bD all k]):y7 (J5 1) lsB (rD all i d es) .F4 (rD all k d (es++[y8 o])) :=
 tW [.av (kI t),yT,.av (kI t),yF,.no,.av (.un)] [.J6 16 2 [0] (.l7 [l9 o,az]) [bD all k]] [0,1,4,5,6,7] 5 [z8 (List.map aU all) ↑i 5 ([(.val (vi t.kind)),(.val (vi ↑t.pos)),(.val (str [])),(.val (str t.text)),(.val (str t.den))]),Bk .neq 3 25 2 t.kind bT,z8 (List.map aU all) ↑i 5 ([(.val (vi t.kind)),(.val (vi ↑t.pos)),(.val (str [])),(.val (str t.text)),(.val (str t.den))]),Bk .eql 3 37 3 t.kind bF,C8 111 [AV.ptr 0 0,AV.dt (Dt.val (vi d))] [some (Bx.cells [AV.dt (Dt.row lY),AV.dt (Dt.val (str o6)),AV.dt (Dt.row (List.map aU all)),AV.dt (Dt.val (vi ↑i))])] (AV.l7 [l9 o,az]) [bD all ↑k],(es.length)=(es.length),P9 112 ((es++[[Dt.val (vi o.kind),Dt.val (str o.num),Dt.val (str o.den),Dt.val (str o.sp),Dt.val (str o.sn),Dt.val (str o.text),Dt.row (List.map Ob.enc o.pair)]]).length),L6 7 [y8 o]]     ⟨ko h,E9 (by simp[h2]),ko h,A9 (decide_eq_false h3),ho,rfl,bG J (by simp;omega),Gs o,Z⟩
theorem b09{all:List o8.Tok}{i:Nat}{d:Int}{es:bv}{t:o8.Tok}(h:all[i]?=some t)(h2:t.kind=2):y7 (J5 1) lsB (rD all i d es) (.out 0) (rD all i d es) :=
 tW [.av (kI t),yF] [] [0,1,4,5,6,7] 5 [z8 (List.map aU all) ↑i 5 ([(.val (vi t.kind)),(.val (vi ↑t.pos)),(.val (str [])),(.val (str t.text)),(.val (str t.den))]),Bk .neq 3 25 2 t.kind bF]     ⟨ko h,E9 (by simp[h2]),Z⟩
abbrev KN(all:List o8.Tok)(i d:Int)(es:bv):AS:=⟨stt 124 [(0,.ptr 0 0),(1,j3 d),(4,.ptr 1 0),(5,.ptr 2 0),(6,.dt (.row es)),(7,.ptr 3 0)],Dz all i M5++[some (.ak es)]⟩
abbrev mK(all:List o8.Tok)(i:Int)(last:Ob)(es:bv)(j:Int):AS:=⟨stt 124 [(4,.ptr 1 0),(5,.ptr 2 0),(6,.dt (.row es)),(7,.ptr 3 0),(13,j3 j)],Dz all i last⟩
noncomputable abbrev DC:Code:=M9 (P6 f132) [1,1,1,1,1,0,1,0,0]
theorem b1a{all:List o8.Tok}{i:Int}{last o o2:Ob}{es:bv}{j:Nat}(hx:es[j]?=some (y8 o))(hl:es.length≤10000)(hc:j5 78 [l9 o,l9 last] (l9 o2)):y7 (J5 1) DC (mK all i last es j) .F4 (mK all i o2 es ((j:Int) - 1)) :=
 tW [yT,.av (.pin ((y8 o).map .dt)),.av (l9 o2),.av (j3 ((j:Int) - 1))] [] [4,5,6,7,13] 4 [Bk .geq 3 112 0 ↑j bT,z8 es ↑j 7 (y8 o),j5 78 [(l9 o),(l9 last)] (l9 o2),Bk .sub 3 114 1 ↑j (vi (↑j - 1))]     ⟨R7 (decide_eq_true J),⟨J,by rw[Int.toNat_natCast];exact hx,rfl⟩,hc,bE rfl J (by have:=(List.getElem?_eq_some_iff.1 hx).1;omega),Z⟩
theorem b1b{all:List o8.Tok}{i:Int}{last:Ob}{es:bv}{j:Int}(hj:j < 0):y7 (J5 1) DC (mK all i last es j) (.out 3) (mK all i last es j) :=
 tW [yF] [] [4,5,6,7,13] 4 [Bk .geq 3 112 0 j bF]     ⟨R7 (decide_eq_false J),Z⟩
theorem a3F{all:List o8.Tok}{i:Int}{l:List Tr}(hl:l.length≤10000):∀(j:Nat),j≤l.length→J7 (J5 1) DC (mK all i (Tr.list (l.drop j)).ob (D8 l) ((j:Int) - 1)) (.out 3) (mK all i (Tr.list l).ob (D8 l) (-1)):=by
 intro j
 induction j with
 |zero =>
  intro _;rw[List.drop_zero];exact .stop (b1b J) (fun h=>by cases h)
 |succ j ih =>
  intro hj;have hx:(D8 l)[j]?=some (y8 (l[j]'J).ob):=by
   unfold D8;rw[List.getElem?_map,List.getElem?_eq_getElem J];rfl
  have hc:=AQ (l[j]'J).ob (Tr.list (l.drop (j+1))).ob;have e:dh (l[j]'J).ob (Tr.list (l.drop (j+1))).ob=(Tr.list (l.drop j)).ob:=by
   rw[List.drop_eq_getElem_cons (show j < l.length by omega)]
   rfl
  rw[e]at hc;have h1:=b1a (all:=all) (i:=i) hx (by unfold D8;rw[List.length_map];omega) hc;rw[show (((j+1:Nat):Int) - 1)=(j:Int) by omega]
  exact .more h1 (ih J)
theorem a6x{all:List o8.Tok}{i k:Nat}{d:Int}{o:Ob}{es:bv}(h1:y7 (J5 1) (.loop lsB) (KM all i d) (.out 0) (KN all k d es))(hk:k≤10000)(he:es.length≤10000)(h2:y7 (J5 1) (.loop DC) (mK all ((k+1:Nat):Int) M5 es ((es.length:Int) - 1)) (.out 3) (mK all ((k+1:Nat):Int) o es (-1))):C8 132 [.ptr 0 0,j3 d] [bD all i] (.l7 [l9 o,az]) [bD all ((k+1:Nat):Int)] :=
 sW 1 [0] [.av (l9 M5),.av (j3 ((k+1:Nat):Int)),.av (j3 es.length),.av (j3 ((es.length:Int) - 1))] [.inv [0,1,4,5,6,7] 4 (.out 0) (KN all k d es),.inv [4,5,6,7,13] 4 (.out 3) (mK all ((k+1:Nat):Int) o es (-1))] [_,_,Bk .add 3 105 1 ↑k (vi (↑(k+1))),(vi ↑es.length)=(vi ↑es.length),Bk .sub 3 110 1 ↑es.length (vi (↑es.length - 1)),_] func132 ⟨nS,h1,I4 J J J,rfl,bE rfl J J,h2,Z⟩
namespace o8
theorem TF(d:Nat)(ts:List Tok):iW 0 d ts=none:=by rw[iW.eq_def]
theorem a8x(d:Nat)(ts:List Tok):jJ 0 d ts=none:=by rw[jJ.eq_def]
theorem a8y(f d:Nat):iW f d []=none:=by cases f <;> rw[iW.eq_def]
theorem a8z(f d:Nat):jJ f d []=none:=by cases f <;> rw[jJ.eq_def]
theorem TG(f d:Nat)(t:Tok)(r:List Tok):iW (f+1) d (t::r)=(if t.kind=5 then some (.num (numOf t.text),r)
   else if t.kind=6 then some (.sym o6 t.text,r)
   else if t.kind=1∧d≤200 then match jJ f (d+1) r with
    |some (l,r')=>some (Tr.list l,r')
    |none=>none
   else none):=by rw[iW.eq_def];rfl
theorem a8A(f d:Nat)(t:Tok)(r:List Tok):jJ (f+1) d (t::r)=(if t.kind=2 then some ([],r)
   else match iW f d (t::r) with
    |some (x,r1)=>match jJ f d r1 with
     |some (l,r2)=>some (x::l,r2)
     |none=>none
    |none=>none):=by rw[jJ.eq_def];rfl
end o8
def uy(t:o8.Tok):Bool:=(!decide (t.kind=5) || (t.den == [49] && (t.text == [48] || t.text == [49] || t.text == [45,49]))) && (!decide (t.kind=6) || (decide (1≤t.text.length) && decide (t.text.length≤40)))
theorem a6y{w:bi}(h:(w == [48] || w == [49] || w == [45,49])=true):(Tr.num (o8.numOf w)).ob=⟨1,w,[49],[],[],[],[]⟩:=by
 simp only[Bool.or_eq_true,beq_iff_eq]at h;rcases h with (rfl | rfl) | rfl <;> decide +kernel
theorem a1q{f d:Nat}{t:o8.Tok}{ts:List o8.Tok}{y:Tr×List o8.Tok}(h:o8.iW f d (t::ts)=some y):t.kind≠3:=by
 cases f with
 |zero=>rw[o8.TF]at h;cases h
 |succ f =>
  rw[o8.TG]at h;intro e;rw[e]at h;simp at h
theorem drop_one{α:Type}{l:List α}{i:Nat}{t:α}{r:List α}(h:l.drop i=t::r):l[i]?=some t∧l.drop (i+1)=r∧i < l.length:=by
 have h1:l[i]?=some t:=by rw[←List.head?_drop,h];rfl
 exact⟨h1,by rw[←List.drop_drop,h];rfl,(List.getElem?_eq_some_iff.1 h1).1⟩
def ObP(all:List o8.Tok)(f:Nat):Prop:=∀(d i:Nat) (x:Tr) (r:List o8.Tok),o8.iW f d (all.drop i)=some (x,r)→d≤300→∃k,i < k∧k≤all.length∧r=all.drop k∧C8 111 [.ptr 0 0,j3 d] [bD all i] (.l7 [l5 x,az]) [bD all k]
def LsP(all:List o8.Tok)(f:Nat):Prop:=∀(d i:Nat) (l:List Tr) (r:List o8.Tok) (es:bv),o8.jJ f d (all.drop i)=some (l,r)→d≤300→es.length≤i→∃k,i≤k∧k < all.length∧r=all.drop (k+1)∧es.length+l.length≤k∧J7 (J5 1) lsB (rD all i d es) (.out 0) (rD all k d (es++D8 l))
theorem b1c{all:List o8.Tok}(hl:all.length≤5000)(hok:∀t∈all,uy t=true):∀f,ObP all f∧LsP all f:=by
 intro f
 induction f with
 |zero=>exact⟨fun d i x r h _=>(by rw[o8.TF]at h;cases h),fun d i l r es h _ _=>(by rw[o8.a8x]at h;cases h)⟩
 |succ f ih =>
  obtain⟨ihO,Wy⟩:=ih;refine⟨fun d i x r h hd=>?_,fun d i l r es h hd he=>?_⟩
  ·cases hts:all.drop i with
   |nil=>rw[hts,o8.a8y]at h;cases h
   |cons t ts =>
    rw[hts,o8.TG]at h;obtain⟨ht,hd1,hlt⟩:=drop_one hts;have hk:=hok t (List.mem_of_getElem? ht);obtain⟨tk,tp,tw,td⟩:=t;unfold uy at hk;simp only at hk h;by_cases h5:tk=5
    ·subst h5;rw[if_pos rfl]at h;cases h;simp only[decide_true,Bool.not_true,Bool.false_or,Bool.and_eq_true]at hk;obtain⟨⟨k1,k2⟩,_⟩:=hk;rw[beq_iff_eq]at k1;subst k1;refine⟨i+1,J,J,hd1.symm,(a6u ht J).cast fun M w v hv=>?_⟩;show RV M w (.l7 [l9 (Tr.num (o8.numOf tw)).ob,az]) v;rw[a6y k2];obtain⟨vs,rfl,u0,us0,rfl,⟨ws,rfl,w0,vs0,rfl,a0,w1,vs1,rfl,a1,w2,vs2,rfl,a2,w3,vs3,rfl,a3,w4,vs4,rfl,a4,w5,vs5,rfl,a5,w6,vs6,rfl,a6,a7⟩,b1⟩:=hv;exact⟨_,rfl,_,_,rfl,⟨_,rfl,w0,_,rfl,a0,w1,_,rfl,a1,w2,_,rfl,a2,w3,_,rfl,a3,w4,_,rfl,a4,w5,_,rfl,a5,w6,_,rfl,RV.Hu a6,a7⟩,b1⟩
    rw[if_neg h5]at h;by_cases h6:tk=6
    ·subst h6;rw[if_pos rfl]at h;cases h;simp only[decide_true,Bool.not_true,Bool.false_or,Bool.and_eq_true,decide_eq_true_eq]at hk;exact⟨i+1,J,J,hd1.symm,a6v ht J hk.2.1 hk.2.2⟩
    rw[if_neg h6]at h;by_cases h1:tk=1∧d≤200
    ·rw[if_pos h1]at h;obtain⟨h1,uC⟩:=h1;subst h1;split at h
     ·rename_i l r' hpl;cases h;rw[←hd1]at hpl;obtain⟨k,g1,g2,g3,g4,g5⟩:=Wy (d+1) (i+1) l _ [] hpl J (Nat.zero_le _);have g6:y7 (J5 1) (.loop lsB) (KM all ((i+1:Nat):Int) ((d+1:Nat):Int)) (.out 0) (rD all k ((d+1:Nat):Int) (D8 l)):=y7.Z4 6 48 7 (by show 6 < 124;omega) rfl g5.K3;have g7:y7 (J5 1) (.loop lsB) (KM all ((i+1:Nat):Int) ((d+1:Nat):Int)) (.out 0) (KN all k ((d+1:Nat):Int) (D8 l)):=y7.CZ 6 4 (T:=48) (kk:=7) (by show 6 < 124;omega) rfl rfl g6;have hln:(D8 l).length=l.length:=List.length_map ..;have g8:=(a3F (all:=all) (i:=((k+1:Nat):Int)) (l:=l) (by rw[List.length_nil]at g4;omega) l.length (Nat.le_refl _)).K3;rw[List.drop_length,←hln]at g8;have g9:=a6x g7 J (by rw[hln];rw[List.length_nil]at g4;omega) g8;exact⟨k+1,J,J,g3,a6w ht J J J g9⟩
     ·cases h
    ·rw[if_neg h1]at h;cases h
  ·cases hts:all.drop i with
   |nil=>rw[hts,o8.a8z]at h;cases h
   |cons t ts =>
    rw[hts,o8.a8A]at h;obtain⟨ht,hd1,hlt⟩:=drop_one hts;by_cases h2:t.kind=2
    ·rw[if_pos h2]at h;cases h;refine⟨i,Nat.le_refl _,hlt,hd1.symm,by simpa using he,?_⟩;rw[show es++D8 []=es from List.append_nil _]
     exact .stop (b09 ht h2) (fun h=>by cases h)
    ·rw[if_neg h2]at h;split at h
     ·rename_i x r1 hpo;split at h
      ·rename_i l' r2 hpl;cases h;have h3:=a1q hpo;rw[←hts]at hpo;obtain⟨k1,a1,a2,a3,a4⟩:=ihO d i x r1 hpo hd;rw[a3]at hpl;obtain⟨k,g1,g2,g3,g4,g5⟩:=Wy d k1 l' _ (es++[y8 x.ob]) hpl hd (by rw[List.length_append,List.length_singleton];omega);rw[List.length_append,List.length_singleton]at g4;rw[List.append_assoc]at g5;exact⟨k,J,g2,g3,by rw[List.length_cons];omega,.more (b08 ht h2 h3 J a4) g5⟩
      ·cases h
     ·cases h
namespace o8
theorem a8B(f:Nat)(t:Tok)(r:List Tok):ik (f+1) (t::r)=(if t.kind=0 then some []
   else match iW f 0 (t::r) with
    |some (x,r1)=>match ik f r1 with
     |some l=>some (x::l)
     |none=>none
    |none=>none):=by rw[ik.eq_def];rfl
theorem a8C(f:Nat):ik f []=none:=by cases f <;> rw[ik.eq_def]
theorem a8D(ts:List Tok):ik 0 ts=none:=by rw[ik.eq_def]
def oZ:Tr→Bool
 |.num q=>decide (q.num.natAbs < 10000) && decide (q.den < 10000)
 |.sym p n=>decide (p.length≤1000) && decide (n.length≤1000)
 |.txt s=>decide (s.length≤1000)
 |.cons a d=>oZ a && oZ d
theorem Hw:∀{t:Tr},oZ t=true→t.Ok 10000
 |.num q,h=>by
  unfold oZ at h;simp only[Bool.and_eq_true,decide_eq_true_eq]at h;exact Tr.Ok.mono (k:=4) (t:=.num q) O ⟨h.1,h.2,O⟩
 |.sym p n,h=>by
  unfold oZ at h;simp only[Bool.and_eq_true,decide_eq_true_eq]at h;exact⟨J,J⟩
 |.txt s,h=>by
  unfold oZ at h;simp only[decide_eq_true_eq]at h;show s.length≤100000;omega
 |.cons a d,h=>by
  unfold oZ at h;simp only[Bool.and_eq_true]at h;exact⟨Hw h.1,Hw h.2⟩
end o8
abbrev Wz(all:List o8.Tok)(i:Int):List (Option Bx):=[KJ,KJ,bD all i]
abbrev mM(all:List o8.Tok)(i:Int)(es:bv):AS:=⟨stt 97 [(7,.ptr 0 0),(10,.ptr 2 0),(11,.own 3 es.length)],Wz all i++[some (.buf 48 7 es)]⟩
abbrev Kl(all:List o8.Tok)(i:Int):AS:=⟨stt 97 [(7,.ptr 0 0),(10,.ptr 2 0),(11,.nil)],Wz all i⟩
noncomputable abbrev zx:Code:=M9 (P6 f66) [1,1,1,1,1,0,0,0]
theorem b1d{all:List o8.Tok}{i k:Nat}{n:Int}{es:bv}{t:o8.Tok}{o:Ob}(h:all[i]?=some t)(h0:t.kind≠0)(he:es.length < 100)(ho:C8 111 [.ptr 0 0,j3 0] [bD all i] (.l7 [l9 o,az]) [bD all k])(hn:j5 112 [l9 o] (j3 n))(fo:n≤3000):y7 EX zx (mM all i es) .F4 (mM all k (es++[y8 o])) :=
 tW [.av (kI t),yT,.av (kI t),.av (kI t),.av (j3 es.length),yF,.no,.av (j3 n),yF,.av (.un)] [.J6 11 1 [2] (.l7 [l9 o,az]) [bD all k]] [7,10,11] 4 [z8 (List.map aU all) ↑i 5 ([(.val (vi t.kind)),(.val (vi ↑t.pos)),(.val (str [])),(.val (str t.text)),(.val (str t.den))]),Bk .neq 3 40 0 t.kind bT,z8 (List.map aU all) ↑i 5 ([(.val (vi t.kind)),(.val (vi ↑t.pos)),(.val (str [])),(.val (str t.text)),(.val (str t.den))]),z8 (List.map aU all) ↑i 5 ([(.val (vi t.kind)),(.val (vi ↑t.pos)),(.val (str [])),(.val (str t.text)),(.val (str t.den))]),(vi ↑es.length)=(vi ↑es.length),Bk .geq 3 65 100 ↑es.length bF,C8 111 [AV.ptr 0 0,AV.dt (Dt.val (vi 0))] [some (Bx.cells [AV.dt (Dt.row lY),AV.dt (Dt.val (str o6)),AV.dt (Dt.row (List.map aU all)),AV.dt (Dt.val (vi ↑i))])] (AV.l7 [l9 o,az]) [bD all ↑k],j5 112 [(l9 o)] (j3 n),Bk .gtr 3 87 3000 n bF,(es.length)=(es.length),P9 112 ((es++[[Dt.val (vi o.kind),Dt.val (str o.num),Dt.val (str o.den),Dt.val (str o.sp),Dt.val (str o.sn),Dt.val (str o.text),Dt.row (List.map Ob.enc o.pair)]]).length),L6 7 [y8 o]]     ⟨ko h,E9 (by simp[h0]),ko h,ko h,rfl,R7 (decide_eq_false J),ho,hn,Q0 (decide_eq_false J),rfl,bG J (by simp;omega),Gs o,Z⟩
theorem b1e{all:List o8.Tok}{i:Nat}{es:bv}{t:o8.Tok}(h:all[i]?=some t)(h0:t.kind=0):y7 EX zx (mM all i es) (.out 0) (mM all i es) :=
 tW [.av (kI t),yF] [] [7,10,11] 4 [z8 (List.map aU all) ↑i 5 ([(.val (vi t.kind)),(.val (vi ↑t.pos)),(.val (str [])),(.val (str t.text)),(.val (str t.den))]),Bk .neq 3 40 0 t.kind bF]     ⟨ko h,E9 (by simp[h0]),Z⟩
theorem a3G{all:List o8.Tok}(hl:all.length≤5000)(hok:∀t∈all,uy t=true):∀(f i:Nat) (l:List Tr) (es:bv),o8.ik f (all.drop i)=some l→(∀x∈l,x.Ok 10000∧x.ob.nodes≤3000)→es.length+l.length≤99→∃k:Nat,J7 EX zx (mM all i es) (.out 0) (mM all k (es++D8 l)):=by
 intro f
 induction f with
 |zero=>intro i l es h;rw[o8.a8D]at h;cases h
 |succ f ih =>
  intro i l es h hx hlen;cases hts:all.drop i with
  |nil=>rw[hts,o8.a8C]at h;cases h
  |cons t ts =>
   rw[hts,o8.a8B]at h;obtain⟨ht,hd1,hlt⟩:=drop_one hts;by_cases h0:t.kind=0
   ·rw[if_pos h0]at h;cases h;refine⟨i,?_⟩;rw[show es++D8 []=es from List.append_nil _]
    exact .stop (b1e ht h0) (fun h=>by cases h)
   ·rw[if_neg h0]at h;split at h
    ·rename_i x r1 hpo;split at h
     ·rename_i l' hpl;cases h;rw[←hts]at hpo;obtain⟨k1,a1,a2,a3,a4⟩:=(b1c hl hok f).1 0 i x r1 hpo J;rw[a3]at hpl;rw[List.length_cons]at hlen;obtain⟨g1,g2⟩:=hx x (List.mem_cons_self ..);have hP:=Te.EG x.ob;obtain⟨k,g5⟩:=ih k1 l' (es++[y8 x.ob]) hpl (fun y hy=>hx y (List.mem_cons_of_mem _ hy)) (by rw[List.length_append,List.length_singleton];omega);rw[List.append_assoc]at g5;exact⟨k,.more (b1d ht h0 J a4 (Nl (g1.wf O)) J) g5⟩
     ·cases h
    ·cases h
theorem a6z{s:bi}{all:List o8.Tok}{k:Nat}{es:bv}(ht:j5 109 [stA s] (.l7 [Ce all,az]))(hl:y7 EX (.loop zx) (Kl all 0) (.out 0) (mM all k es)):j5 66 [.dt (.row lY),stA o6,stA s] (.l7 [.dt (.row es),az]) :=
 pW [.av (.l7 [Ce all,az]),.no] [.inv [7,10,11] 3 (.out 0) (mM all k es)] [_,_,(es.length)=(es.length)] func66 ⟨ht,hl,rfl,Z⟩
theorem a6A{s:bi}{l:List Tr}{f:Nat}(hs:zm s)(hw:∀t∈o8.tk 0 s,t.kind=5∨t.kind=6→o8.oP t.text=true)(hok:∀t∈o8.tk 0 s,uy t=true)(hn:(o8.tk 0 s).length≤5000)(hp:o8.ik f (o8.tk 0 s)=some l)(hx:∀x∈l,x.Ok 10000∧x.ob.nodes≤3000)(hl:l.length≤99):j5 66 [.dt (.row lY),stA o6,stA s] (.l7 [J2 l,az]):=by
 obtain⟨k,g⟩:=a3G hn hok f 0 l [] hp hx (by rw[List.length_nil];omega);have g6:y7 EX (.loop zx) (Kl (o8.tk 0 s) 0) (.out 0) (mM (o8.tk 0 s) k (D8 l)):=y7.Z4 11 48 7 (by show 11 < 97;omega) rfl g.K3;exact a6z (a1m hs hw) g6
theorem a6B:j5 68 [] (stA iO):=pV [] [] func68 trivial
def lW:List o8.Tok:=o8.tk 0 iO
def forms:List Tr:=(o8.ik 3000 lW).getD []
theorem b1f:zm iO:=⟨by decide +kernel,by
 have h:iO.all o8.few=true:=by decide +kernel
 exact List.all_eq_true.1 h⟩
theorem a6C:∀t∈o8.tk 0 iO,t.kind=5∨t.kind=6→o8.oP t.text=true:=by
 have h:o8.a5K (o8.tk 0 iO)=true:=by decide +kernel
 intro t ht hk;have:=List.all_eq_true.1 h t ht
 rwa [if_pos hk]at this
theorem a3H:∀t∈o8.tk 0 iO,uy t=true:=by
 have h:(o8.tk 0 iO).all uy=true:=by decide +kernel
 exact List.all_eq_true.1 h
theorem a1r:(o8.tk 0 iO).length≤5000:=by decide +kernel
theorem a1s:o8.ik 3000 (o8.tk 0 iO)=some forms:=by
 have h:(o8.ik 3000 (o8.tk 0 iO)).isSome=true:=by decide +kernel
 obtain⟨l,hl⟩:=Option.isSome_iff_exists.1 h;unfold forms lW;rw[hl];rfl
theorem Nn:forms.length=28:=by decide +kernel
theorem a1t:∀x∈forms,x.Ok 10000∧x.ob.nodes≤3000:=by
 have h:(forms.all fun x=>o8.oZ x && decide (x.ob.nodes≤3000))=true:=by decide +kernel
 intro x hx;have:=List.all_eq_true.1 h x hx;simp only[Bool.and_eq_true,decide_eq_true_eq]at this;exact⟨o8.Hw this.1,this.2⟩
theorem Lg:j5 34 [] (J2 forms):=by
 have h:=a6A b1f a6C a3H a1r a1s a1t (by rw[Nn];decide);generalize forms=l at *;exact pV [.av (.dt (.row lY)),.av (stA iO),.av (.l7 [J2 l,az])] [_,_,_] func34 ⟨ZT,a6B,h,Z⟩
abbrev pg(o:Ob)(es:bv):AS:=⟨stt 22 [(1,.ptr 0 0),(4,.own 1 es.length)],[KL o,some (.buf 48 7 es)]⟩
abbrev it0(o:Ob):AS:=⟨stt 22 [(1,.ptr 0 0),(4,.nil)],[KL o]⟩
noncomputable abbrev DD:Code:=M9 (P6 f69) [1,1,0,0,0]
theorem b1g{o a d:Ob}{es:bv}(hc:j5 113 [l9 o] (j6 true))(h0:z8 (o.pair.map Ob.enc) 0 7 (y8 a))(h1:z8 (o.pair.map Ob.enc) 1 7 (y8 d))(he:es.length≤10000):y7 EX DD (pg o es) .F4 (pg d (es++[y8 a])) :=
 tW [yT,.av (.pin ((y8 a).map .dt)),.av (.un),.av (.pin ((y8 d).map .dt))] [] [1,4] 2 [j5 113 [(l9 o)] (j6 true),z8 (List.map Ob.enc o.pair) 0 7 (y8 a),(es.length)=(es.length),P9 112 ((es++[[Dt.val (vi a.kind),Dt.val (str a.num),Dt.val (str a.den),Dt.val (str a.sp),Dt.val (str a.sn),Dt.val (str a.text),Dt.row (List.map Ob.enc a.pair)]]).length),L6 7 [y8 a],z8 (List.map Ob.enc o.pair) 1 7 (y8 d)]     ⟨hc,h0,rfl,bG J (by simp;omega),Gs a,h1,Z⟩
theorem b1h{o:Ob}{es:bv}(hc:j5 113 [l9 o] (j6 false)):y7 EX DD (pg o es) (.out 0) (pg o es) :=
 tW [yF] [] [1,4] 2 [j5 113 [(l9 o)] (j6 false)]     ⟨hc,Z⟩
theorem a3I(a d:Tr):z8 ((Tr.cons a d).ob.pair.map Ob.enc) 0 7 (y8 a.ob)∧z8 ((Tr.cons a d).ob.pair.map Ob.enc) 1 7 (y8 d.ob) :=
 ⟨⟨O,congrArg some (BX a.ob),rfl⟩,⟨O,congrArg some (BX d.ob),rfl⟩⟩
theorem Qf:∀(l:List Tr) (es:bv),es.length+l.length≤10000→J7 EX DD (pg (Tr.list l).ob es) (.out 0) (pg M5 (es++D8 l))
 |[],es,_=>by
  rw[show es++D8 []=es from List.append_nil _]
  exact .stop (b1h ((sD M5 O).b O)) (fun h=>by cases h)
 |a::l,es,h=>by
  rw[List.length_cons]at h;have ih:=Qf l (es++[y8 a.ob]) (by rw[List.length_append,List.length_singleton];omega);rw[List.append_assoc]at ih;obtain⟨h0,h1⟩:=a3I a (Tr.list l);exact .more (b1g ((sD (Tr.cons a (Tr.list l)).ob (by show 2≤_;omega)).b (decide_eq_true ⟨rfl,rfl⟩)) h0 h1 J) ih
theorem a3J:M5.Wf:=.mk _ O O O O O O O O (fun x hx=>by cases hx)
theorem sK{l:List Tr}(hl:l.length≤10000):j5 69 [l5 (Tr.list l)] (.l7 [J2 l,j6 true]):=by
 have h:=(Qf l [] (by rw[List.length_nil];omega)).K3;have ht:y7 EX (.loop DD) (it0 (Tr.list l).ob) (.out 0) (pg M5 (D8 l)):=y7.Z4 4 48 7 (by show 4 < 22;omega) rfl h;have hn:=(a07 a3J).b (U4 rfl);show j5 _ [l9 (Tr.list l).ob] (.l7 [.dt (.row (D8 l)),j6 true]);generalize (Tr.list l).ob=o at *;generalize D8 l=es at *;exact pW [yT] [.inv [1,4] 1 (.out 0) (pg M5 es)] [_,_,(es.length)=(es.length)] func69 ⟨ht,hn,rfl,Z⟩
theorem pR:∀{x:Tr} {l:List Tr},o8.items x=some l→x=Tr.list l
 |.num _,_,h=>by cases h
 |.txt _,_,h=>by cases h
 |.sym p n,l,h=>by
  rw[o8.items]at h;split at h
  ·rename_i e;cases h;rw[e.1,e.2];rfl
  ·cases h
 |.cons a d,l,h=>by
  rw[o8.items]at h;split at h
  ·rename_i l' hd;cases h;rw[pR hd];rfl
  ·cases h
theorem a3K(n:bi):j5 212 [stA n] (l5 (.sym o6 n)) :=
 pV [.av (o9 o6 n),.av (l5 (.sym o6 n))] [j5 36 [(stA n)] (o9 o6 n),j5 73 [(o9 o6 n)] (l5 (Tr.sym o6 n))] func212 ⟨O7 n,wW o6 n,Z⟩
theorem a6D{n:bi}{l:bv}{a d o:Ob}(h1:j5 212 [stA n] (l9 a))(h2:j5 80 [.dt (.row l)] (l9 d))(h3:j5 78 [l9 a,l9 d] (l9 o)):j5 181 [stA n,.dt (.row l)] (l9 o) :=
 pV [.av (l9 a),.av (l9 d),.av (l9 o)] [_,_,_] func181 ⟨h1,h2,h3,Z⟩
theorem nT(n:bi){l:List Tr}(hl:l.length≤10000):j5 181 [stA n,J2 l] (l5 (o8.call n l)) :=
 a6D (a3K n) (wK J) (AQ (Tr.sym o6 n).ob (Tr.list l).ob)
theorem sM(n:bi){l:List Tr}(hl:l.length≤10000):j5 213 [stA n,J2 l] (l5 (o8.call n l)):=by
 have h:=nT n hl;show j5 _ [stA n,.dt (.row (D8 l))] (l9 (o8.call n l).ob);have h:j5 _ [stA n,.dt (.row (D8 l))] (l9 (o8.call n l).ob):=h;generalize (o8.call n l).ob=o at *;generalize D8 l=es at *;exact pV [.av (l9 o)] [_] func213 ⟨h,Z⟩
theorem lJ(x:Tr)(r:List Tr):bW (D8 (x::r)) 7 1 ((D8 (x::r)).length:Int) (D8 r):=by
 refine⟨O,?_,Int.le_refl _,?_,.inr fun y hy=>?_⟩
 ·simp only[D8,List.map_cons,List.length_cons];omega
 ·rw[Int.toNat_natCast,List.take_length];rfl
 ·obtain⟨t,_,rfl⟩:=List.mem_map.1 hy;rfl
theorem lK(x:Tr)(r:List Tr):z8 (D8 (x::r)) 0 7 (y8 x.ob):=⟨O,rfl,rfl⟩
theorem a6E(x y:Tr)(r:List Tr):z8 (D8 (x::y::r)) 1 7 (y8 y.ob):=⟨O,rfl,rfl⟩
abbrev dX:FuncId:=182
abbrev uM:FuncId:=213
abbrev qH:FuncId:=181
abbrev K8(n:bi):Ob:=⟨2,[],[],o6,n,[],[]⟩
theorem a8E{es rs:bv}{a b o:Ob}(n0:es.length≠0)(n1:es.length≠1)(h0:z8 es 0 7 (y8 a))(hs:bW es 7 1 (es.length:Int) rs)(hr:j5 uM [stA [97,112,112,101,110,100],.dt (.row rs)] (l9 b))(hc:j5 qH [stA [98,105,110,97,114,121,45,97,112,112,101,110,100],.dt (.row [y8 a,y8 b])] (l9 o)):j5 dX [stA [97,112,112,101,110,100],.dt (.row es)] (.l7 [l9 o,j6 true]) :=
 pV [.av (j3 es.length),.no,.no,.no,yF,yF,.no,.av (.pin ((y8 a).map .dt)),.av (.dt (.row rs)),.av (l9 b),.av (l9 o)] [(vi ↑es.length)=(vi ↑es.length),Bk .eql 3 29 0 ↑es.length bF,Bk .eql 3 34 1 ↑es.length bF,_,_,(none:Option Int)=none∨(none:Option Int)=none,_,_] func182 ⟨rfl,A9 (decide_eq_false J),A9 (decide_eq_false J),h0,hs,.inl rfl,hr,hc,Z⟩
theorem a8F{es rs:bv}{a b o:Ob}(n0:es.length≠0)(n1:es.length≠1)(h0:z8 es 0 7 (y8 a))(hs:bW es 7 1 (es.length:Int) rs)(hr:j5 uM [stA [97,110,100],.dt (.row rs)] (l9 b))(hc:j5 qH [stA [105,102],.dt (.row [y8 a,y8 b,y8 M5])] (l9 o)):j5 dX [stA [97,110,100],.dt (.row es)] (.l7 [l9 o,j6 true]) :=
 pV (.av (j3 es.length)::nK 4 [yF,yF,.no,.av (.pin ((y8 a).map .dt)),.av (.dt (.row rs)),.av (l9 b),.av (l9 M5),.av (l9 o)]) [(vi ↑es.length)=(vi ↑es.length),Bk .eql 3 62 0 ↑es.length bF,Bk .eql 3 67 1 ↑es.length bF,_,_,(none:Option Int)=none∨(none:Option Int)=none,_,_,_] func182 ⟨rfl,A9 (decide_eq_false J),A9 (decide_eq_false J),h0,hs,.inl rfl,hr,nS,hc,Z⟩
theorem b1i{es rs:bv}{a b o:Ob}(n0:es.length≠0)(n1:es.length≠1)(h0:z8 es 0 7 (y8 a))(hs:bW es 7 1 (es.length:Int) rs)(hr:j5 uM [stA [111,114],.dt (.row rs)] (l9 b))(hc:j5 qH [stA [105,102],.dt (.row [y8 a,y8 a,y8 b])] (l9 o)):j5 dX [stA [111,114],.dt (.row es)] (.l7 [l9 o,j6 true]) :=
 pV (.av (j3 es.length)::nK 5 [yF,yF,.no,.av (.pin ((y8 a).map .dt)),.av (.pin ((y8 a).map .dt)),.av (.dt (.row rs)),.av (l9 b),.av (l9 o)]) [(vi ↑es.length)=(vi ↑es.length),Bk .eql 3 62 0 ↑es.length bF,Bk .eql 3 67 1 ↑es.length bF,_,_,_,(none:Option Int)=none∨(none:Option Int)=none,_,_] func182 ⟨rfl,A9 (decide_eq_false J),A9 (decide_eq_false J),h0,h0,hs,.inl rfl,hr,hc,Z⟩
theorem a8G{es rs:bv}{a b o:Ob}(n0:es.length≠0)(h0:z8 es 0 7 (y8 a))(hs:bW es 7 1 (es.length:Int) rs)(hr:j5 uM [stA [108,105,115,116],.dt (.row rs)] (l9 b))(hc:j5 qH [stA [99,111,110,115],.dt (.row [y8 a,y8 b])] (l9 o)):j5 dX [stA [108,105,115,116],.dt (.row es)] (.l7 [l9 o,j6 true]) :=
 pV [.av (j3 es.length),.no,yF,.av (.pin ((y8 a).map .dt)),.av (.dt (.row rs)),.av (l9 b),.av (l9 o)] [(vi ↑es.length)=(vi ↑es.length),Bk .eql 3 14 0 ↑es.length bF,_,_,(none:Option Int)=none∨(none:Option Int)=none,_,_] func182 ⟨rfl,A9 (decide_eq_false J),h0,hs,.inl rfl,hr,hc,Z⟩
theorem a6F:j5 dX [stA [108,105,115,116],.dt (.row [])] (.l7 [l9 M5,j6 true]) :=
 pV [.no,.no,.no,.av (l9 M5)] [_] func182 ⟨nS,Z⟩
theorem a1u:j5 156 [j6 true] (l9 tO):=pV [.av (l9 tO)] [_] func156 ⟨yu,Z⟩
theorem a1v:j5 156 [j6 false] (l9 M5):=pV [.av (l9 M5)] [_] func156 ⟨nS,Z⟩
theorem a6G:j5 dX [stA [97,112,112,101,110,100],.dt (.row [])] (.l7 [l9 M5,j6 true]) :=
 pV (nK 5 [.av (l9 M5),.no]) [_] func182 ⟨nS,Z⟩
theorem a6H:j5 dX [stA [97,110,100],.dt (.row [])] (.l7 [l9 tO,j6 true]) :=
 pV (nK 7 [.av (l9 tO)]) [_] func182 ⟨a1u,Z⟩
theorem a8H:j5 dX [stA [111,114],.dt (.row [])] (.l7 [l9 M5,j6 true]) :=
 pV (nK 8 [.av (l9 M5)]) [_] func182 ⟨a1v,Z⟩
theorem a6I(a:Ob):j5 dX [stA [97,112,112,101,110,100],.dt (.row [y8 a])] (.l7 [l9 a,j6 true]) :=
 pV (nK 7 []) [] func182 trivial
theorem a6J(a:Ob):j5 dX [stA [97,110,100],.dt (.row [y8 a])] (.l7 [l9 a,j6 true]) :=
 pV (nK 8 []) [] func182 trivial
theorem a8I(a:Ob):j5 dX [stA [111,114],.dt (.row [y8 a])] (.l7 [l9 a,j6 true]) :=
 pV (nK 9 []) [] func182 trivial
theorem a6K{es rs:bv}{x a b c o:Ob}(n0:es.length≠0)(h0:z8 es 0 7 (y8 x))(hi:j5 69 [l9 x] (.l7 [.dt (.row [y8 a,y8 b]),j6 true]))(hs:bW es 7 1 (es.length:Int) rs)(hr:j5 uM [stA [99,111,110,100],.dt (.row rs)] (l9 c))(hc:j5 qH [stA [105,102],.dt (.row [y8 a,y8 b,y8 c])] (l9 o)):j5 dX [stA [99,111,110,100],.dt (.row es)] (.l7 [l9 o,j6 true]) :=
 pV (.av (j3 es.length)::nK 6 (yF::.av (.pin ((y8 x).map .dt))::.av (.l7 [.dt (.row [y8 a,y8 b]),j6 true])::nK 4 [.av (.dt (.row rs)),.av (l9 c),.av (l9 o)])) [(vi ↑es.length)=(vi ↑es.length),Bk .eql 3 98 0 ↑es.length bF,_,_,_,(none:Option Int)=none∨(none:Option Int)=none,_,_] func182 ⟨rfl,A9 (decide_eq_false J),h0,hi,hs,.inl rfl,hr,hc,Z⟩
theorem a3L:j5 dX [stA [99,111,110,100],.dt (.row [])] (.l7 [l9 M5,j6 true]) :=
 pV (nK 8 [.av (l9 M5)]) [_] func182 ⟨nS,Z⟩
theorem a6L{a b o:Ob}(hc:j5 qH [stA [98,105,110,97,114,121,45,43],.dt (.row [y8 a,y8 b])] (l9 o)):j5 214 [stA [43],stA [98,105,110,97,114,121,45,43],j3 0,.dt (.row [y8 a,y8 b])] (l9 o) :=
 pV (nK 6 [.av (l9 o)]) [_] func214 ⟨hc,Z⟩
theorem a6M{es rs:bv}{a b o:Ob}(n0:3≤es.length)(h0:z8 es 0 7 (y8 a))(hs:bW es 7 1 (es.length:Int) rs)(hr:j5 uM [stA [43],.dt (.row rs)] (l9 b))(hc:j5 qH [stA [98,105,110,97,114,121,45,43],.dt (.row [y8 a,y8 b])] (l9 o)):j5 214 [stA [43],stA [98,105,110,97,114,121,45,43],j3 0,.dt (.row es)] (l9 o) :=
 pV [.av (j3 es.length),yF,yF,yF,.av (.pin ((y8 a).map .dt)),.av (.dt (.row rs)),.av (l9 b),.av (l9 o)] [(vi ↑es.length)=(vi ↑es.length),Bk .eql 3 10 0 ↑es.length bF,Bk .eql 3 10 1 ↑es.length bF,Bk .eql 3 10 2 ↑es.length bF,_,_,(none:Option Int)=none∨(none:Option Int)=none,_,_] func214 ⟨rfl,A9 (decide_eq_false J),A9 (decide_eq_false J),A9 (decide_eq_false J),h0,hs,.inl rfl,hr,hc,Z⟩
theorem Rx{es:bv}{o:Ob}(h:j5 214 [stA [43],stA [98,105,110,97,114,121,45,43],j3 0,.dt (.row es)] (l9 o)):j5 dX [stA [43],.dt (.row es)] (.l7 [l9 o,j6 true]) :=
 pV (.av (j3 es.length)::nK 7 [.av (l9 o)]) [(vi ↑es.length)=(vi ↑es.length),_] func182 ⟨rfl,h,Z⟩
theorem a1w{n:bi}{l:List Tr}{o:Tr}(h:o8.expand n l=some o)(hl:l.length≤1000):j5 dX [stA n,J2 l] (.l7 [l5 o,j6 true]):=by
 have hln:∀l:List Tr,(D8 l).length=l.length:=fun l=>List.length_map ..
 unfold o8.expand at h;split at h
 ·rename_i e;subst e;split at h
  ·cases h;exact a6F
  ·rename_i x r;cases h;rw[List.length_cons]at hl;exact a8G (es:=D8 (x::r)) (rs:=D8 r) (by rw[hln,List.length_cons];omega) (lK x r) (lJ x r) (sM _ J) (nT _ (l:=[x,o8.call [108,105,115,116] r]) (by show 2≤10000;omega))
 split at h
 ·rename_i e;subst e;split at h
  ·cases h;exact a6G
  ·cases h;exact a6I _
  ·rename_i x r hne;cases h;rw[List.length_cons]at hl;have:r.length≠0:=fun e=>by
    obtain rfl:=List.eq_nil_of_length_eq_zero e;exact hne rfl
   exact a8E (es:=D8 (x::r)) (rs:=D8 r) (by rw[hln,List.length_cons];omega) (by rw[hln,List.length_cons];omega) (lK x r) (lJ x r) (sM _ J) (nT _ (l:=[x,o8.call [97,112,112,101,110,100] r]) (by show 2≤10000;omega))
 split at h
 ·rename_i e;subst e;split at h
  ·cases h;exact a6H
  ·cases h;exact a6J _
  ·rename_i x r hne;cases h;rw[List.length_cons]at hl;have:r.length≠0:=fun e=>by
    obtain rfl:=List.eq_nil_of_length_eq_zero e;exact hne rfl
   exact a8F (es:=D8 (x::r)) (rs:=D8 r) (by rw[hln,List.length_cons];omega) (by rw[hln,List.length_cons];omega) (lK x r) (lJ x r) (sM _ J) (nT _ (l:=[x,o8.call [97,110,100] r,o8.uJ]) (by show 3≤10000;omega))
 split at h
 ·rename_i e;subst e;split at h
  ·cases h;exact a8H
  ·cases h;exact a8I _
  ·rename_i x r hne;cases h;rw[List.length_cons]at hl;have:r.length≠0:=fun e=>by
    obtain rfl:=List.eq_nil_of_length_eq_zero e;exact hne rfl
   exact b1i (es:=D8 (x::r)) (rs:=D8 r) (by rw[hln,List.length_cons];omega) (by rw[hln,List.length_cons];omega) (lK x r) (lJ x r) (sM _ J) (nT _ (l:=[x,x,o8.call [111,114] r]) (by show 3≤10000;omega))
 split at h
 ·rename_i e;subst e;split at h
  ·cases h;exact a3L
  ·rename_i x r;split at h
   ·rename_i a c hi;cases h;rw[List.length_cons]at hl;have hx:=pR hi;subst hx;exact a6K (es:=D8 (Tr.list [a,c]::r)) (rs:=D8 r) (by rw[hln,List.length_cons];omega) (lK _ r) (sK (l:=[a,c]) (by show 2≤10000;omega)) (lJ _ r) (sM _ J) (nT _ (l:=[a,c,o8.call [99,111,110,100] r]) (by show 3≤10000;omega))
   ·cases h
 split at h
 ·rename_i e;subst e;split at h
  ·rename_i x y;cases h;exact Rx (a6L (nT _ (l:=[x,y]) (by show 2≤10000;omega)))
  ·rename_i x y z r;cases h;simp only[List.length_cons]at hl;exact Rx (a6M (es:=D8 (x::y::z::r)) (rs:=D8 (y::z::r)) (by rw[hln];simp only[List.length_cons];omega) (lK x _) (lJ x _) (sM _ (by simp only[List.length_cons];omega)) (nT _ (l:=[x,o8.call [43] (y::z::r)]) (by show 2≤10000;omega)))
  ·cases h
 ·cases h
theorem a8J:j5 139 [o9 o6 [108,105,115,116]] (j6 true):=pV [.no,.no] [] func139 trivial
theorem a8K:j5 139 [o9 o6 [97,110,100]] (j6 true):=pV (nK 4 []) [] func139 trivial
theorem a8L:j5 139 [o9 o6 [111,114]] (j6 true):=pV (nK 5 []) [] func139 trivial
theorem a8M:j5 139 [o9 o6 [99,111,110,100]] (j6 true):=pV (nK 6 []) [] func139 trivial
theorem a8N:j5 139 [o9 o6 [43]] (j6 true):=pV (nK 7 []) [] func139 trivial
theorem a6N:j5 139 [o9 o6 [97,112,112,101,110,100]] (j6 true):=pV (nK 14 []) [] func139 trivial
theorem a8O{n:bi}(h:n ∉ o8.GR):j5 139 [o9 o6 n] (j6 false):=by
 have ne:∀m∈o8.GR,decide (n=m)=false:=fun m hm=>decide_eq_false fun e=>h (e ▸ hm)
 exact pV [.no,yF,yF,yF,yF,yF,yF,yF,yF,yF,yF,yF,yF,yF] [Bl .eql 9 7 [108,105,115,116] n bF,Bl .eql 9 7 [108,105,115,116,42] n bF,Bl .eql 9 7 [97,110,100] n bF,Bl .eql 9 7 [111,114] n bF,Bl .eql 9 7 [99,111,110,100] n bF,Bl .eql 9 7 [43] n bF,Bl .eql 9 7 [42] n bF,Bl .eql 9 7 [45] n bF,Bl .eql 9 7 [47] n bF,Bl .eql 9 7 [60,61] n bF,Bl .eql 9 7 [62] n bF,Bl .eql 9 7 [62,61] n bF,Bl .eql 9 7 [97,112,112,101,110,100] n bF] func139 ⟨H5 (ne _ O),H5 (ne _ O),H5 (ne _ O),H5 (ne _ O),H5 (ne _ O),H5 (ne _ O),H5 (ne _ O),H5 (ne _ O),H5 (ne _ O),H5 (ne _ O),H5 (ne _ O),H5 (ne _ O),H5 (ne _ O),Z⟩
end Go.Proofs.YtdkehabacmlegaaGreatDoor
