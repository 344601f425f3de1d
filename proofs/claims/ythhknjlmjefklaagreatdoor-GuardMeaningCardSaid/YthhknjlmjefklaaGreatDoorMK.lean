/- The maker's objects, the names and arities of the primitives in the reference, and FewAll, for the laws on clauses. -/
import Derived.Test.YthhknjlmjefklaaGreatDoorMJ
namespace Go.Proofs.YthhknjlmjefklaaGreatDoor
open Go.RowKit
abbrev wrow (w:List UInt8):List Dt:=[.val (str w)]
abbrev primL:List (List UInt8×Nat):=[([105,102],3),([101,113,117,97,108],2),([99,111,110,115],2),([99,97,114],1),([99,100,114],1),([99,111,110,115,112],1),([115,121,109,98,111,108,112],1),([115,116,114,105,110,103,112],1),([114,97,116,105,111,110,97,108,112],1),([105,110,116,101,103,101,114,112],1),([98,105,110,97,114,121,45,43],2),([98,105,110,97,114,121,45,42],2),([117,110,97,114,121,45,45],1),([117,110,97,114,121,45,47],1),([60],2),([110,117,109,101,114,97,116,111,114],1),([100,101,110,111,109,105,110,97,116,111,114],1),([102,108,111,111,114],1),([115,121,109,98,111,108,45,110,97,109,101],1),([115,121,109,98,111,108,45,112,97,99,107,97,103,101,45,110,97,109,101],1),([105,110,116,101,114,110],2),([115,116,114,105,110,103,45,97,112,112,101,110,100],2),([115,116,114,105,110,103,45,108,101,110,103,116,104],1),([115,116,114,105,110,103,45,98,121,116,101],2),([98,121,116,101,45,115,116,114,105,110,103],1)]
abbrev prow (x:List UInt8×Nat):List Dt:=[.val (str lispB),.val (str x.1)]
abbrev rrow (x:List UInt8×Nat):List Dt:=[.val (str x.1),.val (.int .i64 x.2)]
def pickN (n:Int):List UInt8×Nat:=primL.getD (n % 25).toNat ([],0)
theorem dropnil {α:Type} {l:List α} {i:Nat} (h:l.drop i=[]):l.length≤i:=by
 have:=congrArg List.length h
 rw [List.length_drop,List.length_nil] at this
 omega
theorem dropcons {α:Type} {l r:List α} {i:Nat} {b:α} (h:l.drop i=b::r):l[i]?=some b∧l.drop (i+1)=r∧i < l.length:=by
 have h1:(l.drop i)[0]?=some b:=by rw [h];rfl
 rw [List.getElem?_drop,Nat.add_zero] at h1
 exact ⟨h1,by rw [← List.drop_drop,h];rfl,(List.getElem?_eq_some_iff.1 h1).1⟩
theorem p_rText (t:List UInt8):Puk 68 [stA t] (trA (.txt t)) :=
 ⟨fnm Tryz.func68 rfl (by kernel_rfl),fun ok w vs ht hv=>by
  obtain rfl:=hv.one_val
  exact (rText_any w t).mono fun _ _ h=>RetLeaf.pure (r:=txtO t) rfl h⟩
abbrev rowA (ts:List Tr):AV:=.dt (.row (ts.map fun t=>encL t.ob))
theorem p_rRat {a b:List UInt8} (ha:a.length≤1100000) (hb:b.length≤1100000):Puk 35 [stA a,stA b] (trA (.num (Rat.divInt (Dec.dval a) (Dec.dval b)))) :=
 ⟨fnm Tryz.func35 rfl (by kernel_rfl),fun ok w vs ht hv=>by
  obtain ⟨u,us,rfl,h1,h2⟩:=hv
  obtain rfl:=RL.one_val h2
  rw [Rd.val_eq h1]
  exact (rRationalQ a b w ha hb).mono fun _ _ h=>RetLeaf.pure (r:=ratO (Rat.divInt (Dec.dval a) (Dec.dval b))) rfl h⟩
theorem p_rFrom (n:Int) (h0:-9223372036854775808≤n) (h1:n≤9223372036854775807):Puk 36 [inA n] (stA (Lib.itoa n)) :=
 ⟨fnm Tryz.func36 rfl (by kernel_rfl),fun ok w vs ht hv=>by
  obtain rfl:=hv.one_val
  refine (refFromInt_any n w ht.1 h0 h1).mono ?_
  rintro e w' ⟨rfl,h2⟩
  exact ⟨_,rfl,h2,.val _⟩⟩
theorem p_User (l:List UInt8):Puk 20 [stA l] (syA userB l):=pwalk (an:=[]) (ls:=[]) (ps:=[]) Tryz.func20 (by kernel_rfl) (by kernel_rfl) trivial
theorem ix_name {k:Nat} {s:List UInt8} (h:symNames[k]?=some s):IxAt (symNames.map wrow) (k:Int) 1 [.val (str s)]:=⟨Int.natCast_nonneg _,by
 rw [Int.toNat_natCast,List.getElem?_map,h];rfl,rfl⟩
theorem p_SymA {n:Int} {k:Nat} {s:List UInt8} (hk:n % 13=k) (h9:k < 9) (hs:symNames[k]?=some s):Puk 67 [inA n] (syA userB s) :=
 pwalk (an:=[.no,.no,.av (inA k),.no,yT,.av (.pin [stA s]),.av (syA userB s)]) (ls:=[]) (ps:=[Puk 9 [(inA n),(inA 13)] (inA ↑k),Bn .lss 3 (.tmp 12) (.tmp 14) (vi ↑k) (vi 9) bT,IxAt (symNames.map wrow) (k:Int) 1 [.val (str s)],Puk 20 [(stA s)] (syA userB s)]) Tryz.func67 (by kernel_rfl) (by kernel_rfl) ⟨(p_mod n 13 (by decide) (by decide)).val (by rw [hk]),bin_ilt (decide_eq_true (by omega)),ix_name hs,p_User s,trivial⟩
theorem p_Sym (n:Int):Puk 67 [inA n] (syA (symP n).1 (symP n).2):=by
 obtain ⟨k,hk,hlt⟩:∃ k:Nat,n % 13=k∧k < 13:=⟨(n % 13).toNat,by omega,by omega⟩
 have e:symP n=symTab.getD k (userB,[]):=by unfold symP;rw [hk];rfl
 rw [e]
 match k,hlt,hk with
 | 0,_,hk=>exact p_SymA hk (by decide) rfl
 | 1,_,hk=>exact p_SymA hk (by decide) rfl
 | 2,_,hk=>exact p_SymA hk (by decide) rfl
 | 3,_,hk=>exact p_SymA hk (by decide) rfl
 | 4,_,hk=>exact p_SymA hk (by decide) rfl
 | 5,_,hk=>exact p_SymA hk (by decide) rfl
 | 6,_,hk=>exact p_SymA hk (by decide) rfl
 | 7,_,hk=>exact p_SymA hk (by decide) rfl
 | 8,_,hk=>exact p_SymA hk (by decide) rfl
 | 9,_,hk=>exact pwalk (an:=[.no,.no,.av (inA 9),.no,.no,.no,.no,.av (syA lispB nilB)]) (ls:=[]) (ps:=[Puk 9 [(inA n),(inA 13)] (inA 9),Puk 29 [(stA [110,105,108])] (syA lispB nilB)]) Tryz.func67 (by kernel_rfl) (by kernel_rfl) ⟨(p_mod n 13 (by decide) (by decide)).val (by rw [hk];rfl),p_lisp _,trivial⟩
 | 10,_,hk=>exact pwalk (an:=[.no,.no,.av (inA 10),.no,.no,.no,.no,.no,.no,.no,.av (syA lispB [116])]) (ls:=[]) (ps:=[Puk 9 [(inA n),(inA 13)] (inA 10),Puk 29 [(stA [116])] (syA lispB [116])]) Tryz.func67 (by kernel_rfl) (by kernel_rfl) ⟨(p_mod n 13 (by decide) (by decide)).val (by rw [hk];rfl),p_lisp _,trivial⟩
 | 11,_,hk=>exact pwalk (an:=[.no,.no,.av (inA 11),.no,.no,.no,.no,.no,.no,.no,.no,.no,.no,.av (syA lispB [99,97,114])]) (ls:=[]) (ps:=[Puk 9 [(inA n),(inA 13)] (inA 11),Puk 29 [(stA [99,97,114])] (syA lispB [99,97,114])]) Tryz.func67 (by kernel_rfl) (by kernel_rfl) ⟨(p_mod n 13 (by decide) (by decide)).val (by rw [hk];rfl),p_lisp _,trivial⟩
 | 12,_,hk=>exact pwalk (an:=[.no,.no,.av (inA 12),.no,.no,.no,.no,.no,.no,.no,.no,.no,.no,.av (syA lispB [113,117,111,116,101])]) (ls:=[]) (ps:=[Puk 9 [(inA n),(inA 13)] (inA 12),Puk 29 [(stA [113,117,111,116,101])] (syA lispB [113,117,111,116,101])]) Tryz.func67 (by kernel_rfl) (by kernel_rfl) ⟨(p_mod n 13 (by decide) (by decide)).val (by rw [hk];rfl),p_lisp _,trivial⟩
theorem p_part {r x:Raw} {i:Nat} (h:r.l[i]?=some x):Puk 70 [rawA r,inA i] (rawA x) :=
 pwalk (an:=[.av (inA r.l.length),yT,.av (.pin ((encR x).map .dt))]) (ls:=[]) (ps:=[(vi ↑r.l.length)=(vi (↑(List.map Raw.enc r.l).length)),Bn .lss 3 (.tmp 5) (.tmp 8) (vi ↑i) (vi ↑r.l.length) bT,IxAt (List.map Raw.enc r.l) ↑i 4 (encR x)]) Tryz.func70 (by kernel_rfl) (by kernel_rfl) ⟨lenEncR _,bin_ilt (decide_eq_true (by have:=(List.getElem?_eq_some_iff.1 h).1;omega)),ix_raw h,trivial⟩
theorem p_part0 {r:Raw} {i:Nat} (h:r.l.length≤i):Puk 70 [rawA r,inA i] (rawA ⟨0,0,[],[]⟩) :=
 pwalk (an:=[.av (inA r.l.length),yF]) (ls:=[]) (ps:=[(vi ↑r.l.length)=(vi (↑(List.map Raw.enc r.l).length)),Bn .lss 3 (.tmp 5) (.tmp 8) (vi ↑i) (vi ↑r.l.length) bF]) Tryz.func70 (by kernel_rfl) (by kernel_rfl) ⟨lenEncR _,bin_ilt (decide_eq_false (by omega)),trivial⟩
def prt (r:Raw) (i:Nat):Raw:=r.l.getD i ⟨0,0,[],[]⟩
theorem p_prt (r:Raw) (i:Nat):Puk 70 [rawA r,inA i] (rawA (prt r i)):=by
 unfold prt
 rw [List.getD_eq_getElem?_getD]
 rcases Nat.lt_or_ge i r.l.length with h | h
 ·rw [List.getElem?_eq_getElem h];exact p_part (List.getElem?_eq_getElem h)
 ·rw [List.getElem?_eq_none h];exact p_part0 h
theorem prt_mk (r:Raw) (i:Nat):mkT (prt r i)=(r.l.map mkT).getD i zeroT:=by
 unfold prt
 rw [List.getD_eq_getElem?_getD,List.getD_eq_getElem?_getD,List.getElem?_map]
 cases r.l[i]? with
 | some x=>rfl
 | none=>rfl
theorem p_rList {ts:List Tr} (h:ts.length≤1000000):Puk 71 [rowA ts] (trA (Tr.list ts)) :=
 ⟨fnm Tryz.func71 rfl (by kernel_rfl),fun ok w vs ht hv=>by
  obtain ⟨v,us,rfl,h1,h2⟩:=hv
  obtain rfl:us=[]:=h2
  have h1':Rd ok w v (.row (ts.map fun t=>encL t.ob)):=h1
  obtain ⟨A,n,c,rfl,hn⟩:=Rd.slice h1'
  have e:(ts.map fun t=>encL t.ob)=(ts.map Tr.ob).map Ob.enc:=by
   rw [List.map_map]
   exact List.map_congr_left fun t _=>(enc_L t.ob).symm
  rw [e] at h1'
  have hl:=h1'.len
  rw [List.length_map,List.length_map] at hl
  have hL:=(rList_any ok (ts.map Tr.ob) A n c w h1' (by omega)).mono fun _ _ h=>RetObj.pure h
  rw [← Tr.list_ob] at hL
  exact hL⟩
theorem mk_k0 {r:Raw} (hk:r.kind % 8=0):Puk 34 [rawA r] (trA (.num ((r.n % 2001 - 1000:Int):Rat))):=pwalk (an:=[.av (inA 0),.no,.av (inA (r.n % 2001)),.av (inA (r.n % 2001 - 1000)),.av (trA (.num ((r.n % 2001 - 1000:Int):Rat)))]) (ls:=[]) (ps:=[Puk 9 [(inA r.kind),(inA 8)] (inA 0),Puk 9 [(inA r.n),(inA 2001)] (inA (r.n % 2001)),Bn .sub 3 (.tmp 13) (.const (vi 1000)) (vi (r.n % 2001)) (vi 1000) (vi (r.n % 2001 - 1000)),Puk 12 [(inA (r.n % 2001 - 1000))] (obA ((Tr.num ↑(r.n % 2001 - 1000)).ob))]) Tryz.func34 (by kernel_rfl) (by kernel_rfl) ⟨(p_mod r.kind 8 (by decide) (by decide)).val (by rw [hk]),p_mod _ _ (by decide) (by decide),bin_isub rfl (by omega) (by omega),p_rInt _ (by omega) (by omega),trivial⟩
theorem mk_k1 {r:Raw} (hk:r.kind % 8=1):Puk 34 [rawA r] (trA (.num ((r.n % 2001 - 1000:Int):Rat))):=pwalk (an:=[.av (inA 1),.no,.no,.av (inA (r.n % 2001)),.av (inA (r.n % 2001 - 1000)),.av (trA (.num ((r.n % 2001 - 1000:Int):Rat)))]) (ls:=[]) (ps:=[Puk 9 [(inA r.kind),(inA 8)] (inA 1),Puk 9 [(inA r.n),(inA 2001)] (inA (r.n % 2001)),Bn .sub 3 (.tmp 13) (.const (vi 1000)) (vi (r.n % 2001)) (vi 1000) (vi (r.n % 2001 - 1000)),Puk 12 [(inA (r.n % 2001 - 1000))] (obA ((Tr.num ↑(r.n % 2001 - 1000)).ob))]) Tryz.func34 (by kernel_rfl) (by kernel_rfl) ⟨(p_mod r.kind 8 (by decide) (by decide)).val (by rw [hk]),p_mod _ _ (by decide) (by decide),bin_isub rfl (by omega) (by omega),p_rInt _ (by omega) (by omega),trivial⟩
theorem mk_k3 {r:Raw} (hk:r.kind % 8=3):Puk 34 [rawA r] (trA (.sym (symP r.n).1 (symP r.n).2)):=pwalk (an:=[.av (inA 3),.no,.no,.no,.no,.av (syA (symP r.n).1 (symP r.n).2),.av (trA (.sym (symP r.n).1 (symP r.n).2))]) (ls:=[]) (ps:=[Puk 9 [(inA r.kind),(inA 8)] (inA 3),Puk 67 [(inA r.n)] (syA (symP r.n).fst (symP r.n).snd),Puk 59 [(syA (symP r.n).fst (symP r.n).snd)] (obA ((Tr.sym (symP r.n).fst (symP r.n).snd).ob))]) Tryz.func34 (by kernel_rfl) (by kernel_rfl) ⟨(p_mod r.kind 8 (by decide) (by decide)).val (by rw [hk]),p_Sym r.n,p_rSym _ _,trivial⟩
theorem mk_k4 {r:Raw} (hk:r.kind % 8=4):Puk 34 [rawA r] (trA (.txt r.s)):=pwalk (an:=[.av (inA 4),.no,.no,.no,.no,.no,.av (trA (.txt r.s))]) (ls:=[]) (ps:=[Puk 9 [(inA r.kind),(inA 8)] (inA 4),Puk 68 [(stA r.s)] (trA (Tr.txt r.s))]) Tryz.func34 (by kernel_rfl) (by kernel_rfl) ⟨(p_mod r.kind 8 (by decide) (by decide)).val (by rw [hk]),p_rText r.s,trivial⟩
theorem w_k2 {r:Raw} {x y:List UInt8} {q:Rat} (hk:r.kind % 8=2) (hs:r.s.length≤12) (hx:Puk 36 [inA (r.n % 41 - 20)] (stA x)) (hy:Puk 36 [inA (1+r.s.length)] (stA y)) (hr:Puk 35 [stA x,stA y] (trA (.num q))):Puk 34 [rawA r] (trA (.num q)) :=
 pwalk (an:=[.av (inA 2),.no,.no,.no,.av (inA (r.n % 41)),.av (inA (r.n % 41 - 20)),.av (stA x),.av (inA r.s.length),.av (inA (1+r.s.length)),.av (stA y),.av (trA (.num q))]) (ls:=[]) (ps:=[Puk 9 [(inA r.kind),(inA 8)] (inA 2),Puk 9 [(inA r.n),(inA 41)] (inA (r.n % 41)),Bn .sub 3 (.tmp 20) (.const (vi 20)) (vi (r.n % 41)) (vi 20) (vi (r.n % 41 - 20)),Puk 36 [(inA (r.n % 41 - 20))] (stA x),(vi ↑r.s.length)=(vi (↑r.s.length)),Bn .add 3 (.const (vi 1)) (.tmp 25) (vi 1) (vi ↑r.s.length) (vi (1+↑r.s.length)),Puk 36 [(inA (1+↑r.s.length))] (stA y),Puk 35 [(stA x),(stA y)] (trA (Tr.num q))]) Tryz.func34 (by kernel_rfl) (by kernel_rfl) ⟨(p_mod r.kind 8 (by decide) (by decide)).val (by rw [hk]),p_mod _ _ (by decide) (by decide),bin_isub rfl (by omega) (by omega),hx,lenStr _,bin_iadd rfl (by omega) (by omega),hy,hr,trivial⟩
theorem mk_k2 {r:Raw} (hk:r.kind % 8=2) (hs:r.s.length≤12):Puk 34 [rawA r] (trA (.num (Rat.divInt (r.n % 41 - 20) (1+r.s.length)))):=by
 have h:=p_rRat (a:=Lib.itoa (r.n % 41 - 20)) (b:=Lib.itoa (1+r.s.length:Int)) (Nat.le_trans (itoa_length_any _ (k:=2) (by decide) (by omega)) (by decide)) (Nat.le_trans (itoa_length_any _ (k:=2) (by decide) (by omega)) (by decide))
 rw [Dec.dval_itoa,Dec.dval_itoa] at h
 exact w_k2 hk hs (p_rFrom _ (by omega) (by omega)) (p_rFrom _ (by omega) (by omega)) h
theorem mk_k5 {r:Raw} {a b:Tr} (hk:r.kind % 8=5) (ha:Puk 34 [rawA (prt r 0)] (trA a)) (hb:Puk 34 [rawA (prt r 1)] (trA b)):Puk 34 [rawA r] (trA (.cons a b)) :=
 pwalk (an:=[.av (inA 5),.no,.no,.no,.no,.no,.no,.av (rawA (prt r 0)),.av (trA a),.av (rawA (prt r 1)),.av (trA b),.av (trA (.cons a b))]) (ls:=[]) (ps:=[Puk 9 [(inA r.kind),(inA 8)] (inA 5),Puk 70 [(rawA r),(inA 0)] (.agg [(inA ((prt r 0).kind)),(inA ((prt r 0).n)),(stA (prt r 0).s),(.dt (.row (List.map Raw.enc (prt r 0).l)))]),Puk 34 [(.agg [(inA ((prt r 0).kind)),(inA ((prt r 0).n)),(stA (prt r 0).s),(.dt (.row (List.map Raw.enc (prt r 0).l)))])] (obA a.ob),Puk 70 [(rawA r),(inA 1)] (.agg [(inA ((prt r 1).kind)),(inA ((prt r 1).n)),(stA (prt r 1).s),(.dt (.row (List.map Raw.enc (prt r 1).l)))]),Puk 34 [(.agg [(inA ((prt r 1).kind)),(inA ((prt r 1).n)),(stA (prt r 1).s),(.dt (.row (List.map Raw.enc (prt r 1).l)))])] (obA b.ob),Puk 69 [(obA a.ob),(obA b.ob)] (trA (a.cons b))]) Tryz.func34 (by kernel_rfl) (by kernel_rfl) ⟨(p_mod r.kind 8 (by decide) (by decide)).val (by rw [hk]),p_prt r 0,ha,p_prt r 1,hb,p_rCons a.ob b.ob,trivial⟩
abbrev encOs (ts:List Tr):List (List Dt):=ts.map fun t=>encL t.ob
abbrev oq0 (r:Raw):AS:=⟨stt 67 [(1,.ptr 0 0),(2,.ptr 1 0),(3,.nil),(4,inA 0)],[some (.cells [inA r.kind,inA r.n,stA r.s,.dt (.row (r.l.map Raw.enc))]),some (.cells [inA 0,stA [],stA [],stA [],stA [],stA [],.nil])]⟩
abbrev oqS (r:Raw) (es:List (List Dt)) (n:Nat) (i:Int):AS:=⟨stt 67 [(1,.ptr 0 0),(2,.ptr 1 0),(3,.own 2 n),(4,inA i)],[some (.cells [inA r.kind,inA r.n,stA r.s,.dt (.row (r.l.map Raw.enc))]),some (.cells [inA 0,stA [],stA [],stA [],stA [],stA [],.nil]),some (.buf 37 7 es)]⟩
noncomputable abbrev oqB:Code:=subC (bodyOf Tryz.f34) [1,1,1,0,1,0,0]
theorem one_src (t:Tr):SrcOK 7 [encL t.ob]:=by
 intro x hx
 rw [List.mem_singleton] at hx
 subst hx
 refine ⟨rfl,fun d hd=>?_⟩
 simp only [List.mem_cons,List.not_mem_nil,or_false] at hd
 rcases hd with rfl | rfl | rfl | rfl | rfl | rfl | rfl <;> rfl
theorem oqA {r x:Raw} {t:Tr} (hx:r.l[0]?=some x) (hl:r.l.length≤8) (ht:Puk 34 [rawA x] (trA t)):Tri EX oqB (oq0 r) .nxt (oqS r [encL t.ob] 1 ((1:Nat):Int)) :=
 twalk (c:=subC (bodyOf Tryz.f34) [1,1,1,0,1,0,0]) (s:=oq0 r) (an:=[.av (inA r.l.length),yT,.av (.pin ((encR x).map .dt)),.av (trA t),.av (.un),.av (inA ((1:Nat):Int))]) (ls:=[]) (ft:=[1,2,3,4]) (nb:=3) (e:=.nxt) (s':=oqS r [encL t.ob] 1 ((1:Nat):Int)) (ps:=[Value.int .i64 (r.l.length:Int)=Value.int .i64 ((r.l.map Raw.enc).length:Int),BinIs Tryz.prog .lss 3 (.tmp 49) (.tmp 52) (.int .i64 0) (.int .i64 (r.l.length:Int)) (.bool true),IxAt (r.l.map Raw.enc) 0 4 (encR x),Puk 34 [rawA x] (trA t),FitB 112 1,SrcOK 7 [encL t.ob],BinIs Tryz.prog .add 3 (.tmp 54) (.const (.int .i64 1)) (.int .i64 0) (.int .i64 1) (.int .i64 ((1:Nat):Int))]) (by kernel_rfl)
  ⟨lenEncR _,bin_ilt (decide_eq_true (by have:=(List.getElem?_eq_some_iff.1 hx).1;omega)),ix_raw hx,ht,⟨by decide,by decide⟩,one_src t,bin_iadd (by omega) (by omega) (by omega),trivial⟩
theorem oqE {r:Raw}:r.l=[]→Tri EX oqB (oq0 r) (.out 1) (oq0 r):=fun h =>
 twalk (c:=subC (bodyOf Tryz.f34) [1,1,1,0,1,0,0]) (s:=oq0 r) (an:=[.av (inA r.l.length),yF]) (ls:=[]) (ft:=[1,2,3,4]) (nb:=2) (e:=.out 1) (s':=oq0 r) (ps:=[(vi ↑r.l.length)=(vi (↑(List.map Raw.enc r.l).length)),Bn .lss 3 (.tmp 49) (.tmp 52) (vi 0) (vi ↑r.l.length) bF]) (by kernel_rfl)
  ⟨lenEncR _,bin_ilt (decide_eq_false (by rw [h];decide)),trivial⟩
theorem oqN {r x:Raw} {t:Tr} {es:List (List Dt)} {n i:Nat} (hx:r.l[i]?=some x) (hl:r.l.length≤8) (hn:es.length=n) (hi:n≤8) (ht:Puk 34 [rawA x] (trA t)):Tri EX oqB (oqS r es n i) .nxt (oqS r (es++[encL t.ob]) (es++[encL t.ob]).length ((i+1:Nat):Int)) :=
 twalk (c:=subC (bodyOf Tryz.f34) [1,1,1,0,1,0,0]) (s:=oqS r es n i) (an:=[.av (inA r.l.length),yT,.av (.pin ((encR x).map .dt)),.av (trA t),.av (.un),.av (inA ((i+1:Nat):Int))]) (ls:=[]) (ft:=[1,2,3,4]) (nb:=3) (e:=.nxt) (s':=oqS r (es++[encL t.ob]) (es++[encL t.ob]).length ((i+1:Nat):Int)) (ps:=[Value.int .i64 (r.l.length:Int)=Value.int .i64 ((r.l.map Raw.enc).length:Int),BinIs Tryz.prog .lss 3 (.tmp 49) (.tmp 52) (.int .i64 (i:Int)) (.int .i64 (r.l.length:Int)) (.bool true),IxAt (r.l.map Raw.enc) (i:Int) 4 (encR x),Puk 34 [rawA x] (trA t),es.length=n,FitB 112 (es++[encL t.ob]).length,SrcOK 7 [encL t.ob],BinIs Tryz.prog .add 3 (.tmp 54) (.const (.int .i64 1)) (.int .i64 (i:Int)) (.int .i64 1) (.int .i64 ((i+1:Nat):Int))]) (by kernel_rfl)
  ⟨lenEncR _,bin_ilt (decide_eq_true (by have:=(List.getElem?_eq_some_iff.1 hx).1;omega)),ix_raw hx,ht,hn,⟨by rw [List.length_append,hn];exact Nat.le_trans (show n+1≤9 by omega) (by decide),by rw [List.length_append,hn];exact Nat.le_trans (Nat.mul_le_mul_right _ (show n+1≤9 by omega)) (by decide)⟩,one_src t,bin_iadd (by omega) (by omega) (by have:=(List.getElem?_eq_some_iff.1 hx).1;omega),trivial⟩
theorem oqF {r:Raw} {es:List (List Dt)} {n i:Nat} (hi:r.l.length≤i):Tri EX oqB (oqS r es n i) (.out 1) (oqS r es n i) :=
 twalk (c:=subC (bodyOf Tryz.f34) [1,1,1,0,1,0,0]) (s:=oqS r es n i) (an:=[.av (inA r.l.length),yF]) (ls:=[]) (ft:=[1,2,3,4]) (nb:=3) (e:=.out 1) (s':=oqS r es n i) (ps:=[(vi ↑r.l.length)=(vi (↑(List.map Raw.enc r.l).length)),Bn .lss 3 (.tmp 49) (.tmp 52) (vi ↑i) (vi ↑r.l.length) bF]) (by kernel_rfl)
  ⟨lenEncR _,bin_ilt (decide_eq_false (by omega)),trivial⟩
theorem oq_go {r:Raw} (h8:r.l.length≤8) (hf:∀ x∈r.l,Puk 34 [rawA x] (trA (mkT x))):∀ (s:List Raw) (i n:Nat) (es:List (List Dt)),r.l.drop i=s→i≤r.l.length→es.length=n→n+s.length≤8→∃ j:Nat,Lps EX oqB (oqS r es n i) (.out 1) (oqS r (es++encOs (s.map mkT)) (es++encOs (s.map mkT)).length j):=by
 intro s
 induction s with
 | nil =>
  intro i n es hd hi hn _
  have:=dropnil hd
  refine ⟨i,?_⟩
  simp only [List.map_nil,encOs,List.append_nil]
  rw [hn]
  exact .stop (oqF this) (fun h=>by cases h)
 | cons x s ih =>
  intro i n es hd hi hn h9
  obtain ⟨hx,hd',hlt⟩:=dropcons hd
  rw [List.length_cons] at h9
  obtain ⟨j,hj⟩:=ih (i+1) (es++[encL (mkT x).ob]).length (es++[encL (mkT x).ob]) hd' (by omega) rfl (by rw [List.length_append,hn];show n+1+_≤8;omega)
  refine ⟨j,.more (oqN hx h8 hn (by omega) (hf x (List.mem_of_getElem? hx))) ?_⟩
  have e:es++[encL (mkT x).ob]++encOs (s.map mkT)=es++encOs ((x::s).map mkT):=by
   rw [List.append_assoc];rfl
  rw [e] at hj
  exact hj
theorem mk_k60 {r:Raw} {ts:List Tr} (hk:r.kind % 8=6) (hr:r.l=[]) (hts:ts=[]):Puk 34 [rawA r] (trA (Tr.list ts)):=by
 subst hts
 have hl:=(Lps.stop (oqE hr) (fun h=>by cases h)).tri
 have h2:=p_rList (ts:=[]) (Nat.zero_le _)
 exact pwalk (an:=[.av (inA 6),.no,.no,.no,.no,.no,.no,.av (trA (Tr.list []))]) (ls:=[.inv [1,2,3,4] 2 (.out 1) (oq0 r)]) (ps:=[Puk 9 [inA r.kind,inA 8] (inA 6),Tri EX (.loop oqB) (oq0 r) (.out 1) (oq0 r),Puk 71 [rowA []] (trA (Tr.list []))]) Tryz.func34 (by kernel_rfl) (by kernel_rfl) ⟨(p_mod r.kind 8 (by decide) (by decide)).val (by rw [hk]),hl,h2,trivial⟩
theorem mk_k6 {r:Raw} {ts:List Tr} {j:Nat} (hk:r.kind % 8=6) (hl:Tri EX (.loop oqB) (oq0 r) (.out 1) (oqS r (encOs ts) (encOs ts).length j)) (h8:ts.length≤8):Puk 34 [rawA r] (trA (Tr.list ts)) :=
 pwalk (an:=[.av (inA 6),.no,.no,.no,.no,.no,.no,.av (trA (Tr.list ts))]) (ls:=[.inv [1,2,3,4] 3 (.out 1) (oqS r (encOs ts) (encOs ts).length j)]) (ps:=[Puk 9 [inA r.kind,inA 8] (inA 6),Tri EX (.loop oqB) (oq0 r) (.out 1) (oqS r (encOs ts) (encOs ts).length j),Puk 71 [rowA ts] (trA (Tr.list ts)),(encOs ts).length=(encOs ts).length]) Tryz.func34 (by kernel_rfl) (by kernel_rfl) ⟨(p_mod r.kind 8 (by decide) (by decide)).val (by rw [hk]),hl,p_rList (by omega),rfl,trivial⟩
theorem mk_k70 {r:Raw} {ts:List Tr} (hk:r.kind % 8=7) (hr:r.l=[]) (hts:ts=[]):Puk 34 [rawA r] (trA (Tr.list ts)):=by
 subst hts
 have hl:=(Lps.stop (oqE hr) (fun h=>by cases h)).tri
 have h2:=p_rList (ts:=[]) (Nat.zero_le _)
 exact pwalk (an:=[.av (inA 7),.no,.no,.no,.no,.no,.no,.av (trA (Tr.list []))]) (ls:=[.inv [1,2,3,4] 2 (.out 1) (oq0 r)]) (ps:=[Puk 9 [inA r.kind,inA 8] (inA 7),Tri EX (.loop oqB) (oq0 r) (.out 1) (oq0 r),Puk 71 [rowA []] (trA (Tr.list []))]) Tryz.func34 (by kernel_rfl) (by kernel_rfl) ⟨(p_mod r.kind 8 (by decide) (by decide)).val (by rw [hk]),hl,h2,trivial⟩
theorem mk_k7 {r:Raw} {ts:List Tr} {j:Nat} (hk:r.kind % 8=7) (hl:Tri EX (.loop oqB) (oq0 r) (.out 1) (oqS r (encOs ts) (encOs ts).length j)) (h8:ts.length≤8):Puk 34 [rawA r] (trA (Tr.list ts)) :=
 pwalk (an:=[.av (inA 7),.no,.no,.no,.no,.no,.no,.av (trA (Tr.list ts))]) (ls:=[.inv [1,2,3,4] 3 (.out 1) (oqS r (encOs ts) (encOs ts).length j)]) (ps:=[Puk 9 [inA r.kind,inA 8] (inA 7),Tri EX (.loop oqB) (oq0 r) (.out 1) (oqS r (encOs ts) (encOs ts).length j),Puk 71 [rowA ts] (trA (Tr.list ts)),(encOs ts).length=(encOs ts).length]) Tryz.func34 (by kernel_rfl) (by kernel_rfl) ⟨(p_mod r.kind 8 (by decide) (by decide)).val (by rw [hk]),hl,p_rList (by omega),rfl,trivial⟩
theorem mk_list {r:Raw} (hk:r.kind % 8=6∨r.kind % 8=7) (h8:r.l.length≤8) (hf:∀ x∈r.l,Puk 34 [rawA x] (trA (mkT x))):Puk 34 [rawA r] (trA (Tr.list (r.l.map mkT))):=by
 have go:=oq_go h8 hf
 match hr:r.l,h8,hf,go with
 | [],_,_,_ =>
  rcases hk with hk | hk
  ·exact mk_k60 hk hr rfl
  ·exact mk_k70 hk hr rfl
 | x::s,h8,hf,go =>
  rw [List.length_cons] at h8
  obtain ⟨j,hj⟩:=go s 1 1 [encL (mkT x).ob] rfl (by simp) rfl (by omega)
  have h1:=oqA (r:=r) (x:=x) (by rw [hr];rfl) (by rw [hr,List.length_cons];omega) (hf x (List.mem_cons_self ..))
  have hl:=(Lps.more h1 hj).tri
  have e:[encL (mkT x).ob]++encOs (s.map mkT)=encOs ((x::s).map mkT):=rfl
  rw [e] at hl
  have l8:((x::s).map mkT).length≤8:=by rw [List.length_map,List.length_cons];omega
  rcases hk with hk | hk
  ·exact mk_k6 hk hl l8
  ·exact mk_k7 hk hl l8
theorem p_mkOb:∀ (N:Nat) (r:Raw),r.size≤N→Fit r→Puk 34 [rawA r] (trA (mkT r)):=by
 intro N
 induction N with
 | zero=>intro r h;have:=r.size_pos;omega
 | succ N ih =>
  intro r hN hf
  have kid:∀ x∈r.l,Puk 34 [rawA x] (trA (mkT x)):=fun x hx=>ih x (by have:=Raw.size_l hx;omega) (hf.kids hx)
  have hp:∀ i,Puk 34 [rawA (prt r i)] (trA (mkT (prt r i))):=fun i=>by
   unfold prt
   rw [List.getD_eq_getElem?_getD]
   rcases Nat.lt_or_ge i r.l.length with h | h
   ·rw [List.getElem?_eq_getElem h];exact kid _ (List.getElem_mem h)
   ·rw [List.getElem?_eq_none h];exact mk_k0 (r:=⟨0,0,[],[]⟩) rfl
  rw [mkT_eq]
  unfold mkK
  have hb:=Int.emod_nonneg r.kind (show (8:Int)≠0 by decide)
  have hb':=Int.emod_lt_of_pos r.kind (show (0:Int) < 8 by decide)
  split
  ·rename_i h
   rcases h with h | h
   ·exact mk_k0 h
   ·exact mk_k1 h
  ·split
   ·rename_i h;exact mk_k2 h hf.s
   ·split
    ·rename_i h;exact mk_k3 h
    ·split
     ·rename_i h;exact mk_k4 h
     ·split
      ·rename_i h
       rw [← prt_mk,← prt_mk]
       exact mk_k5 h (hp 0) (hp 1)
      ·exact mk_list (by omega) (by have:=hf.l;omega) kid
theorem p_rows:Puk 33 [] (.dt (.row (primL.map rrow))):=pwalk (an:=[]) (ls:=[]) (ps:=[]) Tryz.func33 (by kernel_rfl) (by kernel_rfl) trivial
theorem p_rNames:Puk 8 [] (.dt (.row (primL.map prow))):=pwalk (an:=[.av (.dt (.row (primL.map rrow))),.no,.no,.no,.av (syA lispB [105,102]),.no,.no,.no,.no,.no,.av (syA lispB [101,113,117,97,108]),.no,.no,.no,.no,.no,.av (syA lispB [99,111,110,115]),.no,.no,.no,.no,.no,.av (syA lispB [99,97,114]),.no,.no,.no,.no,.no,.av (syA lispB [99,100,114]),.no,.no,.no,.no,.no,.av (syA lispB [99,111,110,115,112]),.no,.no,.no,.no,.no,.av (syA lispB [115,121,109,98,111,108,112]),.no,.no,.no,.no,.no,.av (syA lispB [115,116,114,105,110,103,112]),.no,.no,.no,.no,.no,.av (syA lispB [114,97,116,105,111,110,97,108,112]),.no,.no,.no,.no,.no,.av (syA lispB [105,110,116,101,103,101,114,112]),.no,.no,.no,.no,.no,.av (syA lispB [98,105,110,97,114,121,45,43]),.no,.no,.no,.no,.no,.av (syA lispB [98,105,110,97,114,121,45,42]),.no,.no,.no,.no,.no,.av (syA lispB [117,110,97,114,121,45,45]),.no,.no,.no,.no,.no,.av (syA lispB [117,110,97,114,121,45,47]),.no,.no,.no,.no,.no,.av (syA lispB [60]),.no,.no,.no,.no,.no,.av (syA lispB [110,117,109,101,114,97,116,111,114]),.no,.no,.no,.no,.no,.av (syA lispB [100,101,110,111,109,105,110,97,116,111,114]),.no,.no,.no,.no,.no,.av (syA lispB [102,108,111,111,114]),.no,.no,.no,.no,.no,.av (syA lispB [115,121,109,98,111,108,45,110,97,109,101]),.no,.no,.no,.no,.no,.av (syA lispB [115,121,109,98,111,108,45,112,97,99,107,97,103,101,45,110,97,109,101]),.no,.no,.no,.no,.no,.av (syA lispB [105,110,116,101,114,110]),.no,.no,.no,.no,.no,.av (syA lispB [115,116,114,105,110,103,45,97,112,112,101,110,100]),.no,.no,.no,.no,.no,.av (syA lispB [115,116,114,105,110,103,45,108,101,110,103,116,104]),.no,.no,.no,.no,.no,.av (syA lispB [115,116,114,105,110,103,45,98,121,116,101]),.no,.no,.no,.no,.no,.av (syA lispB [98,121,116,101,45,115,116,114,105,110,103]),.no,.no]) (ls:=[]) (ps:=[Puk 33 [] (.dt (.row (List.map rrow primL))),Puk 29 [(stA ([105,102],3).fst)] (syA lispB [105,102]),Puk 29 [(stA ([101,113,117,97,108],2).fst)] (syA lispB [101,113,117,97,108]),Puk 29 [(stA ([99,111,110,115],2).fst)] (syA lispB [99,111,110,115]),Puk 29 [(stA ([99,97,114],1).fst)] (syA lispB [99,97,114]),Puk 29 [(stA ([99,100,114],1).fst)] (syA lispB [99,100,114]),Puk 29 [(stA ([99,111,110,115,112],1).fst)] (syA lispB [99,111,110,115,112]),Puk 29 [(stA ([115,121,109,98,111,108,112],1).fst)] (syA lispB [115,121,109,98,111,108,112]),Puk 29 [(stA ([115,116,114,105,110,103,112],1).fst)] (syA lispB [115,116,114,105,110,103,112]),Puk 29 [(stA ([114,97,116,105,111,110,97,108,112],1).fst)] (syA lispB [114,97,116,105,111,110,97,108,112]),Puk 29 [(stA ([105,110,116,101,103,101,114,112],1).fst)] (syA lispB [105,110,116,101,103,101,114,112]),Puk 29 [(stA ([98,105,110,97,114,121,45,43],2).fst)] (syA lispB [98,105,110,97,114,121,45,43]),Puk 29 [(stA ([98,105,110,97,114,121,45,42],2).fst)] (syA lispB [98,105,110,97,114,121,45,42]),Puk 29 [(stA ([117,110,97,114,121,45,45],1).fst)] (syA lispB [117,110,97,114,121,45,45]),Puk 29 [(stA ([117,110,97,114,121,45,47],1).fst)] (syA lispB [117,110,97,114,121,45,47]),Puk 29 [(stA ([60],2).fst)] (syA lispB [60]),Puk 29 [(stA ([110,117,109,101,114,97,116,111,114],1).fst)] (syA lispB [110,117,109,101,114,97,116,111,114]),Puk 29 [(stA ([100,101,110,111,109,105,110,97,116,111,114],1).fst)] (syA lispB [100,101,110,111,109,105,110,97,116,111,114]),Puk 29 [(stA ([102,108,111,111,114],1).fst)] (syA lispB [102,108,111,111,114]),Puk 29 [(stA ([115,121,109,98,111,108,45,110,97,109,101],1).fst)] (syA lispB [115,121,109,98,111,108,45,110,97,109,101]),Puk 29 [(stA ([115,121,109,98,111,108,45,112,97,99,107,97,103,101,45,110,97,109,101],1).fst)] (syA lispB [115,121,109,98,111,108,45,112,97,99,107,97,103,101,45,110,97,109,101]),Puk 29 [(stA ([105,110,116,101,114,110],2).fst)] (syA lispB [105,110,116,101,114,110]),Puk 29 [(stA ([115,116,114,105,110,103,45,97,112,112,101,110,100],2).fst)] (syA lispB [115,116,114,105,110,103,45,97,112,112,101,110,100]),Puk 29 [(stA ([115,116,114,105,110,103,45,108,101,110,103,116,104],1).fst)] (syA lispB [115,116,114,105,110,103,45,108,101,110,103,116,104]),Puk 29 [(stA ([115,116,114,105,110,103,45,98,121,116,101],2).fst)] (syA lispB [115,116,114,105,110,103,45,98,121,116,101]),Puk 29 [(stA ([98,121,116,101,45,115,116,114,105,110,103],1).fst)] (syA lispB [98,121,116,101,45,115,116,114,105,110,103]),25=25]) Tryz.func8 (by kernel_rfl) (by kernel_rfl) ⟨p_rows,p_lisp _,p_lisp _,p_lisp _,p_lisp _,p_lisp _,p_lisp _,p_lisp _,p_lisp _,p_lisp _,p_lisp _,p_lisp _,p_lisp _,p_lisp _,p_lisp _,p_lisp _,p_lisp _,p_lisp _,p_lisp _,p_lisp _,p_lisp _,p_lisp _,p_lisp _,p_lisp _,p_lisp _,p_lisp _,by decide +kernel,trivial⟩
theorem p_rAr0:Puk 10 [syA lispB [105,102]] (.tup [inA 3,boA true]):=pwalk (an:=[.no,.av (.dt (.row (primL.map rrow)))]) (ls:=[]) (ps:=[Puk 33 [] (.dt (.row (List.map rrow primL)))]) Tryz.func10 (by kernel_rfl) (by kernel_rfl) ⟨p_rows,trivial⟩
theorem p_rAr1:Puk 10 [syA lispB [101,113,117,97,108]] (.tup [inA 2,boA true]):=pwalk (an:=[.no,.av (.dt (.row (primL.map rrow)))]) (ls:=[]) (ps:=[Puk 33 [] (.dt (.row (List.map rrow primL)))]) Tryz.func10 (by kernel_rfl) (by kernel_rfl) ⟨p_rows,trivial⟩
theorem p_rAr2:Puk 10 [syA lispB [99,111,110,115]] (.tup [inA 2,boA true]):=pwalk (an:=[.no,.av (.dt (.row (primL.map rrow)))]) (ls:=[]) (ps:=[Puk 33 [] (.dt (.row (List.map rrow primL)))]) Tryz.func10 (by kernel_rfl) (by kernel_rfl) ⟨p_rows,trivial⟩
theorem p_rAr3:Puk 10 [syA lispB [99,97,114]] (.tup [inA 1,boA true]):=pwalk (an:=[.no,.av (.dt (.row (primL.map rrow)))]) (ls:=[]) (ps:=[Puk 33 [] (.dt (.row (List.map rrow primL)))]) Tryz.func10 (by kernel_rfl) (by kernel_rfl) ⟨p_rows,trivial⟩
theorem p_rAr4:Puk 10 [syA lispB [99,100,114]] (.tup [inA 1,boA true]):=pwalk (an:=[.no,.av (.dt (.row (primL.map rrow)))]) (ls:=[]) (ps:=[Puk 33 [] (.dt (.row (List.map rrow primL)))]) Tryz.func10 (by kernel_rfl) (by kernel_rfl) ⟨p_rows,trivial⟩
theorem p_rAr5:Puk 10 [syA lispB [99,111,110,115,112]] (.tup [inA 1,boA true]):=pwalk (an:=[.no,.av (.dt (.row (primL.map rrow)))]) (ls:=[]) (ps:=[Puk 33 [] (.dt (.row (List.map rrow primL)))]) Tryz.func10 (by kernel_rfl) (by kernel_rfl) ⟨p_rows,trivial⟩
theorem p_rAr6:Puk 10 [syA lispB [115,121,109,98,111,108,112]] (.tup [inA 1,boA true]):=pwalk (an:=[.no,.av (.dt (.row (primL.map rrow)))]) (ls:=[]) (ps:=[Puk 33 [] (.dt (.row (List.map rrow primL)))]) Tryz.func10 (by kernel_rfl) (by kernel_rfl) ⟨p_rows,trivial⟩
theorem p_rAr7:Puk 10 [syA lispB [115,116,114,105,110,103,112]] (.tup [inA 1,boA true]):=pwalk (an:=[.no,.av (.dt (.row (primL.map rrow)))]) (ls:=[]) (ps:=[Puk 33 [] (.dt (.row (List.map rrow primL)))]) Tryz.func10 (by kernel_rfl) (by kernel_rfl) ⟨p_rows,trivial⟩
theorem p_rAr8:Puk 10 [syA lispB [114,97,116,105,111,110,97,108,112]] (.tup [inA 1,boA true]):=pwalk (an:=[.no,.av (.dt (.row (primL.map rrow)))]) (ls:=[]) (ps:=[Puk 33 [] (.dt (.row (List.map rrow primL)))]) Tryz.func10 (by kernel_rfl) (by kernel_rfl) ⟨p_rows,trivial⟩
theorem p_rAr9:Puk 10 [syA lispB [105,110,116,101,103,101,114,112]] (.tup [inA 1,boA true]):=pwalk (an:=[.no,.av (.dt (.row (primL.map rrow)))]) (ls:=[]) (ps:=[Puk 33 [] (.dt (.row (List.map rrow primL)))]) Tryz.func10 (by kernel_rfl) (by kernel_rfl) ⟨p_rows,trivial⟩
theorem p_rAr10:Puk 10 [syA lispB [98,105,110,97,114,121,45,43]] (.tup [inA 2,boA true]):=pwalk (an:=[.no,.av (.dt (.row (primL.map rrow)))]) (ls:=[]) (ps:=[Puk 33 [] (.dt (.row (List.map rrow primL)))]) Tryz.func10 (by kernel_rfl) (by kernel_rfl) ⟨p_rows,trivial⟩
theorem p_rAr11:Puk 10 [syA lispB [98,105,110,97,114,121,45,42]] (.tup [inA 2,boA true]):=pwalk (an:=[.no,.av (.dt (.row (primL.map rrow)))]) (ls:=[]) (ps:=[Puk 33 [] (.dt (.row (List.map rrow primL)))]) Tryz.func10 (by kernel_rfl) (by kernel_rfl) ⟨p_rows,trivial⟩
theorem p_rAr12:Puk 10 [syA lispB [117,110,97,114,121,45,45]] (.tup [inA 1,boA true]):=pwalk (an:=[.no,.av (.dt (.row (primL.map rrow)))]) (ls:=[]) (ps:=[Puk 33 [] (.dt (.row (List.map rrow primL)))]) Tryz.func10 (by kernel_rfl) (by kernel_rfl) ⟨p_rows,trivial⟩
theorem p_rAr13:Puk 10 [syA lispB [117,110,97,114,121,45,47]] (.tup [inA 1,boA true]):=pwalk (an:=[.no,.av (.dt (.row (primL.map rrow)))]) (ls:=[]) (ps:=[Puk 33 [] (.dt (.row (List.map rrow primL)))]) Tryz.func10 (by kernel_rfl) (by kernel_rfl) ⟨p_rows,trivial⟩
theorem p_rAr14:Puk 10 [syA lispB [60]] (.tup [inA 2,boA true]):=pwalk (an:=[.no,.av (.dt (.row (primL.map rrow)))]) (ls:=[]) (ps:=[Puk 33 [] (.dt (.row (List.map rrow primL)))]) Tryz.func10 (by kernel_rfl) (by kernel_rfl) ⟨p_rows,trivial⟩
theorem p_rAr15:Puk 10 [syA lispB [110,117,109,101,114,97,116,111,114]] (.tup [inA 1,boA true]):=pwalk (an:=[.no,.av (.dt (.row (primL.map rrow)))]) (ls:=[]) (ps:=[Puk 33 [] (.dt (.row (List.map rrow primL)))]) Tryz.func10 (by kernel_rfl) (by kernel_rfl) ⟨p_rows,trivial⟩
theorem p_rAr16:Puk 10 [syA lispB [100,101,110,111,109,105,110,97,116,111,114]] (.tup [inA 1,boA true]):=pwalk (an:=[.no,.av (.dt (.row (primL.map rrow)))]) (ls:=[]) (ps:=[Puk 33 [] (.dt (.row (List.map rrow primL)))]) Tryz.func10 (by kernel_rfl) (by kernel_rfl) ⟨p_rows,trivial⟩
theorem p_rAr17:Puk 10 [syA lispB [102,108,111,111,114]] (.tup [inA 1,boA true]):=pwalk (an:=[.no,.av (.dt (.row (primL.map rrow)))]) (ls:=[]) (ps:=[Puk 33 [] (.dt (.row (List.map rrow primL)))]) Tryz.func10 (by kernel_rfl) (by kernel_rfl) ⟨p_rows,trivial⟩
theorem p_rAr18:Puk 10 [syA lispB [115,121,109,98,111,108,45,110,97,109,101]] (.tup [inA 1,boA true]):=pwalk (an:=[.no,.av (.dt (.row (primL.map rrow)))]) (ls:=[]) (ps:=[Puk 33 [] (.dt (.row (List.map rrow primL)))]) Tryz.func10 (by kernel_rfl) (by kernel_rfl) ⟨p_rows,trivial⟩
theorem p_rAr19:Puk 10 [syA lispB [115,121,109,98,111,108,45,112,97,99,107,97,103,101,45,110,97,109,101]] (.tup [inA 1,boA true]):=pwalk (an:=[.no,.av (.dt (.row (primL.map rrow)))]) (ls:=[]) (ps:=[Puk 33 [] (.dt (.row (List.map rrow primL)))]) Tryz.func10 (by kernel_rfl) (by kernel_rfl) ⟨p_rows,trivial⟩
theorem p_rAr20:Puk 10 [syA lispB [105,110,116,101,114,110]] (.tup [inA 2,boA true]):=pwalk (an:=[.no,.av (.dt (.row (primL.map rrow)))]) (ls:=[]) (ps:=[Puk 33 [] (.dt (.row (List.map rrow primL)))]) Tryz.func10 (by kernel_rfl) (by kernel_rfl) ⟨p_rows,trivial⟩
theorem p_rAr21:Puk 10 [syA lispB [115,116,114,105,110,103,45,97,112,112,101,110,100]] (.tup [inA 2,boA true]):=pwalk (an:=[.no,.av (.dt (.row (primL.map rrow)))]) (ls:=[]) (ps:=[Puk 33 [] (.dt (.row (List.map rrow primL)))]) Tryz.func10 (by kernel_rfl) (by kernel_rfl) ⟨p_rows,trivial⟩
theorem p_rAr22:Puk 10 [syA lispB [115,116,114,105,110,103,45,108,101,110,103,116,104]] (.tup [inA 1,boA true]):=pwalk (an:=[.no,.av (.dt (.row (primL.map rrow)))]) (ls:=[]) (ps:=[Puk 33 [] (.dt (.row (List.map rrow primL)))]) Tryz.func10 (by kernel_rfl) (by kernel_rfl) ⟨p_rows,trivial⟩
theorem p_rAr23:Puk 10 [syA lispB [115,116,114,105,110,103,45,98,121,116,101]] (.tup [inA 2,boA true]):=pwalk (an:=[.no,.av (.dt (.row (primL.map rrow)))]) (ls:=[]) (ps:=[Puk 33 [] (.dt (.row (List.map rrow primL)))]) Tryz.func10 (by kernel_rfl) (by kernel_rfl) ⟨p_rows,trivial⟩
theorem p_rAr24:Puk 10 [syA lispB [98,121,116,101,45,115,116,114,105,110,103]] (.tup [inA 1,boA true]):=pwalk (an:=[.no,.av (.dt (.row (primL.map rrow)))]) (ls:=[]) (ps:=[Puk 33 [] (.dt (.row (List.map rrow primL)))]) Tryz.func10 (by kernel_rfl) (by kernel_rfl) ⟨p_rows,trivial⟩
theorem pick_get (n:Int):primL[(n % 25).toNat]?=some (pickN n):=by
 have h:(n % 25).toNat < primL.length:=by show (n % 25).toNat < 25;omega
 unfold pickN
 rw [List.getD_eq_getElem?_getD,List.getElem?_eq_getElem h]
 rfl
theorem p_rAri:∀ {i:Nat} {s:List UInt8} {a:Nat},primL[i]?=some (s,a)→Puk 10 [syA lispB s] (.tup [inA (a:Int),boA true])
 | 0,_,_,h=>by cases h;exact p_rAr0
 | 1,_,_,h=>by cases h;exact p_rAr1
 | 2,_,_,h=>by cases h;exact p_rAr2
 | 3,_,_,h=>by cases h;exact p_rAr3
 | 4,_,_,h=>by cases h;exact p_rAr4
 | 5,_,_,h=>by cases h;exact p_rAr5
 | 6,_,_,h=>by cases h;exact p_rAr6
 | 7,_,_,h=>by cases h;exact p_rAr7
 | 8,_,_,h=>by cases h;exact p_rAr8
 | 9,_,_,h=>by cases h;exact p_rAr9
 | 10,_,_,h=>by cases h;exact p_rAr10
 | 11,_,_,h=>by cases h;exact p_rAr11
 | 12,_,_,h=>by cases h;exact p_rAr12
 | 13,_,_,h=>by cases h;exact p_rAr13
 | 14,_,_,h=>by cases h;exact p_rAr14
 | 15,_,_,h=>by cases h;exact p_rAr15
 | 16,_,_,h=>by cases h;exact p_rAr16
 | 17,_,_,h=>by cases h;exact p_rAr17
 | 18,_,_,h=>by cases h;exact p_rAr18
 | 19,_,_,h=>by cases h;exact p_rAr19
 | 20,_,_,h=>by cases h;exact p_rAr20
 | 21,_,_,h=>by cases h;exact p_rAr21
 | 22,_,_,h=>by cases h;exact p_rAr22
 | 23,_,_,h=>by cases h;exact p_rAr23
 | 24,_,_,h=>by cases h;exact p_rAr24
 | _+25,_,_,h=>by cases h
theorem left_fit:∀ (N:Nat) (r:Raw),r.size≤N→∀ m:Int,0≤m→m≤1000→0≤leftW r m→Fit r∧leftW r m+r.size≤m:=by
 intro N
 induction N with
 | zero=>intro r h;have:=r.size_pos;omega
 | succ N ih =>
  intro r hN m h0 h1 hl
  have hr:r.size=Raw.sizeL r.l+1:=by obtain ⟨k,n,s,l⟩:=r;rfl
  rw [leftW_eq] at hl ⊢
  split at hl
  ·omega
  ·rename_i hs
   rw [if_neg hs]
   split at hl
   ·omega
   ·rename_i h6
    rw [if_neg h6]
    rw [wr_id (by omega) (by omega)] at hl ⊢
    have key:∀ (l:List Raw) (m:Int),(∀ x∈l,x.size≤N)→-1≤m→m≤1000→0≤leftWL l m→(∀ x∈l,Fit x)∧leftWL l m+Raw.sizeL l≤m:=by
     intro l
     induction l with
     | nil=>intro m _ _ h1 _;rw [leftWL];exact ⟨(fun x hx=>by cases hx),by rw [Raw.sizeL];omega⟩
     | cons x r ihr =>
      intro m hsz hm0 hm1 hp
      rw [leftWL] at hp ⊢
      split at hp
      ·rename_i h0m
       rw [if_pos h0m]
       have hx:0≤leftW x m:=by
        rcases Int.lt_or_le (leftW x m) 0 with h | h
        ·rw [leftWL_neg h] at hp;omega
        ·exact h
       obtain ⟨f1,f2⟩:=ih x (hsz x (List.mem_cons_self ..)) m h0m hm1 hx
       obtain ⟨g1,g2⟩:=ihr (leftW x m) (fun y hy=>hsz y (List.mem_cons_of_mem _ hy)) (by omega) (by omega) hp
       refine ⟨fun y hy=>?_,by rw [Raw.sizeL];omega⟩
       rcases List.mem_cons.1 hy with rfl | hy
       ·exact f1
       ·exact g1 y hy
      ·omega
    obtain ⟨k1,k2⟩:=key r.l (m - 1) (fun x hx=>by have:=Raw.size_l hx;omega) (by omega) (by omega) hl
    exact ⟨.mk r (by omega) (by omega) k1,by omega⟩
theorem fewR_fit {r:Raw} {m:Int} (h0:0≤m) (h1:m≤1000) (h:fewR r m=true):Fit r:=(left_fit _ r (Nat.le_refl _) m h0 h1 (of_decide_eq_true h)).1
theorem fewR_size {r:Raw} {m:Int} (h0:0≤m) (h1:m≤1000) (h:fewR r m=true):(r.size:Int)≤m:=by
 have h2:=(left_fit _ r (Nat.le_refl _) m h0 h1 (of_decide_eq_true h)).2
 have h3:0≤leftW r m:=of_decide_eq_true h
 omega
def fewAllR (l:List Raw) (m:Int):Bool:=decide (l.length≤8) && l.all fun r=>fewR r m
abbrev rawsA (l:List Raw):AV:=.dt (.row (l.map Raw.enc))
abbrev faS (l:List Raw) (m i:Int):AS:=⟨stt 22 [(0,rawsA l),(1,inA m),(4,boA false),(5,inA i)],[]⟩
noncomputable abbrev faB:Code:=subC (bodyOf Tryz.f6) [1,1,0,1,0,0]
theorem faB1 {l:List Raw} {x:Raw} {i:Nat} {m:Int} (hx:l[i]?=some x) (hl:l.length≤8) (hf:fewR x m=true):Tri EX faB (faS l m i) .nxt (faS l m ((i+1:Nat):Int)) :=
 twalk (c:=subC (bodyOf Tryz.f6) [1,1,0,1,0,0]) (s:=faS l m i) (an:=[.av (inA l.length),yT,.av (.pin ((encR x).map .dt)),yT,.av (inA ((i+1:Nat):Int))]) (ls:=[]) (ft:=[0,1,4,5]) (nb:=0) (e:=.nxt) (s':=faS l m ((i+1:Nat):Int)) (ps:=[(vi ↑l.length)=(vi (↑(List.map Raw.enc l).length)),Bn .lss 3 (.tmp 9) (.tmp 11) (vi ↑i) (vi ↑l.length) bT,IxAt (List.map Raw.enc l) ↑i 4 (encR x),Puk 18 [(rawA x),(inA m)] (boA true),Bn .add 3 (.tmp 13) (.const (vi 1)) (vi ↑i) (vi 1) (vi (↑(i+1)))]) (by kernel_rfl)
  ⟨lenEncR _,bin_ilt (decide_eq_true (by have:=(List.getElem?_eq_some_iff.1 hx).1;omega)),ix_raw hx,(p_Few x m).b hf,bin_iadd (by omega) (by omega) (by have:=(List.getElem?_eq_some_iff.1 hx).1;omega),trivial⟩
theorem faB2 {l:List Raw} {i:Nat} {m:Int} (hi:i=l.length):Tri EX faB (faS l m i) (.out 0) (faS l m i) :=
 twalk (c:=subC (bodyOf Tryz.f6) [1,1,0,1,0,0]) (s:=faS l m i) (an:=[.av (inA l.length),yF]) (ls:=[]) (ft:=[0,1,4,5]) (nb:=0) (e:=.out 0) (s':=faS l m i) (ps:=[(vi ↑l.length)=(vi (↑(List.map Raw.enc l).length)),Bn .lss 3 (.tmp 9) (.tmp 11) (vi ↑i) (vi ↑l.length) bF]) (by kernel_rfl)
  ⟨lenEncR _,bin_ilt (decide_eq_false (by omega)),trivial⟩
theorem faB3 {l:List Raw} {x:Raw} {i:Nat} {m:Int} (hx:l[i]?=some x) (hf:fewR x m=false):Tri EX faB (faS l m i) .ret (faS l m i) :=
 twalk (c:=subC (bodyOf Tryz.f6) [1,1,0,1,0,0]) (s:=faS l m i) (an:=[.av (inA l.length),yT,.av (.pin ((encR x).map .dt)),yF]) (ls:=[]) (ft:=[0,1,4,5]) (nb:=0) (e:=.ret) (s':=faS l m i) (ps:=[(vi ↑l.length)=(vi (↑(List.map Raw.enc l).length)),Bn .lss 3 (.tmp 9) (.tmp 11) (vi ↑i) (vi ↑l.length) bT,IxAt (List.map Raw.enc l) ↑i 4 (encR x),Puk 18 [(rawA x),(inA m)] (boA false)]) (by kernel_rfl)
  ⟨lenEncR _,bin_ilt (decide_eq_true (by have:=(List.getElem?_eq_some_iff.1 hx).1;omega)),ix_raw hx,(p_Few x m).b hf,trivial⟩
theorem p_FewAll (l:List Raw) (m:Int):Puk 6 [rawsA l,inA m] (boA (fewAllR l m)):=by
 unfold fewAllR
 by_cases h8:l.length≤8
 ·rw [decide_eq_true h8,Bool.true_and]
  have loop:∀ (s:List Raw) (i:Nat),l.drop i=s→i≤l.length→(s.all (fun r=>fewR r m)=true→Lps EX faB (faS l m i) (.out 0) (faS l m l.length))∧(s.all (fun r=>fewR r m)=false→∃ j:Nat,Lps EX faB (faS l m i) .ret (faS l m j)):=by
   intro s
   induction s with
   | nil =>
    intro i hd hi
    have:=dropnil hd
    obtain rfl:i=l.length:=by omega
    exact ⟨fun _=>.stop (faB2 rfl) (fun h=>by cases h),fun h=>by cases h⟩
   | cons x s ih =>
    intro i hd hi
    obtain ⟨hx,hd',hlt⟩:=dropcons hd
    obtain ⟨i1,i2⟩:=ih (i+1) hd' (by omega)
    cases hf:fewR x m with
    | true =>
     rw [List.all_cons,hf,Bool.true_and]
     refine ⟨fun h=>.more (faB1 hx h8 hf) (i1 h),fun h=>?_⟩
     obtain ⟨j,hj⟩:=i2 h
     exact ⟨j,.more (faB1 hx h8 hf) hj⟩
    | false =>
     rw [List.all_cons,hf,Bool.false_and]
     exact ⟨fun h=>(by cases h),fun _=>⟨i,.stop (faB3 hx hf) (fun h=>by cases h)⟩⟩
  obtain ⟨l1,l2⟩:=loop l 0 rfl (Nat.zero_le _)
  cases ha:l.all (fun r=>fewR r m) with
  | true =>
   have l1:=l1 ha
   exact pwalk (an:=[.av (inA l.length),yF]) (ls:=[.inv [0,1,4,5] 0 (.out 0) (faS l m l.length)]) (ps:=[(vi ↑l.length)=(vi (↑(List.map Raw.enc l).length)),Bn .gtr 3 (.tmp 7) (.const (vi 8)) (vi ↑l.length) (vi 8) bF,Tri EX (.loop (subC (bodyOf Tryz.f6) [1,1,0,1,0,0])) (faS l m 0) (.out 0) (faS l m l.length)]) Tryz.func6 (by kernel_rfl) (by kernel_rfl) ⟨lenEncR _,bin_igt (decide_eq_false (by omega)),l1.tri,trivial⟩
  | false =>
   obtain ⟨j,hj⟩:=l2 ha
   exact pwalk (an:=[.av (inA l.length),yF]) (ls:=[.inv [0,1,4,5] 0 (.ret) (faS l m j)]) (ps:=[(vi ↑l.length)=(vi (↑(List.map Raw.enc l).length)),Bn .gtr 3 (.tmp 7) (.const (vi 8)) (vi ↑l.length) (vi 8) bF,Tri EX (.loop (subC (bodyOf Tryz.f6) [1,1,0,1,0,0])) (faS l m 0) (.ret) (faS l m j)]) Tryz.func6 (by kernel_rfl) (by kernel_rfl) ⟨lenEncR _,bin_igt (decide_eq_false (by omega)),hj.tri,trivial⟩
 ·rw [decide_eq_false h8,Bool.false_and]
  exact pwalk (an:=[.av (inA l.length),yT]) (ls:=[]) (ps:=[(vi ↑l.length)=(vi (↑(List.map Raw.enc l).length)),Bn .gtr 3 (.tmp 7) (.const (vi 8)) (vi ↑l.length) (vi 8) bT]) Tryz.func6 (by kernel_rfl) (by kernel_rfl) ⟨lenEncR _,bin_igt (decide_eq_true (by omega)),trivial⟩
end Go.Proofs.YthhknjlmjefklaaGreatDoor
namespace Go.Proofs.YthhknjlmjefklaaGreatDoor
open Go.RowKit
theorem SOK.cast {P:Program} {G:World→Prop} {f:FuncId} {args:List AV} {xs xs':List (Option Bx)} {r r':AV} (h:SOK P G f args xs r xs') (hr:∀ (M:Mm) (w:World) (v:Value),RV M w r v→RV M w r' v):SOK P G f args xs r' xs' :=
 ⟨h.1,fun X M w vs hG hS ha=>(h.2 X M w vs hG hS ha).mono fun _ _ ⟨v,M',h1,h2,h3,h4,h5⟩=>⟨v,M',h1,h2,h3,h4,hr _ _ _ h5⟩⟩
theorem RV.nilRow {M:Mm} {w:World} {v:Value} (h:RV M w .nil v):RV M w (.dt (.row [])) v:=by
 have e:v=.slice none 0 0:=h
 rw [e]
 exact .nil _ _
abbrev pkg1:List (List Dt):=[[.val (str lispB),.row []]]
theorem p_Initial:Puk 61 [] (.dt (.row pkg1)):=pwalk (an:=[]) (ls:=[]) (ps:=[]) Tryz.func61 (by kernel_rfl) (by kernel_rfl) trivial
theorem p_Find1:Puk 187 [.dt (.row pkg1),stA lispB] (.tup [.agg [stA lispB,.dt (.row [])],boA true]) :=
 pwalk (an:=[.no,.no,.no,.no]) (ls:=[.run 1]) (ps:=[]) Tryz.func187 (by kernel_rfl) (by kernel_rfl) trivial
theorem p_Intern1 {w:List UInt8} (h0:1≤w.length) (h1:w.length≤40):Puk 126 [.dt (.row pkg1),stA lispB,stA w] (.tup [syA lispB w,inA 0]) :=
 pwalk (an:=[.av (.tup [.agg [stA lispB,.dt (.row [])],boA true]),.av (inA w.length),yF,.av (inA w.length),yF,.no,.no]) (ls:=[.run 1]) (ps:=[Puk 187 [(.dt (.row [[(.val (str lispB)),(.row [])]])),(stA lispB)] (.tup [(.agg [(stA lispB),(.dt (.row []))]),(boA true)]),(vi ↑w.length)=(vi (↑w.length)),Bn .lss 3 (.tmp 21) (.const (vi 1)) (vi ↑w.length) (vi 1) bF,(vi ↑w.length)=(vi (↑w.length)),Bn .gtr 3 (.tmp 25) (.const (vi 40)) (vi ↑w.length) (vi 40) bF]) Tryz.func126 (by kernel_rfl) (by kernel_rfl) ⟨p_Find1,lenS _,bin_ilt (decide_eq_false (by omega)),lenS _,bin_igt (decide_eq_false (by omega)),trivial⟩
abbrev psB (all:List Rdr.Tok) (i:Int):Option Bx:=some (.cells [.dt (.row pkg1),stA lispB,toksA all,inA i])
theorem ix_tok {all:List Rdr.Tok} {i:Nat} {t:Rdr.Tok} (h:all[i]?=some t):IxAt (all.map tokC) (i:Int) 5 (tokC t):=⟨Int.natCast_nonneg _,by
 rw [Int.toNat_natCast,List.getElem?_map,h];rfl,rfl⟩
abbrev tokP (t:Rdr.Tok):AV:=.pin ((tokC t).map .dt)
theorem p_objN {all:List Rdr.Tok} {i p:Nat} {d:Int} {w e:List UInt8} (h:all[i]?=some ⟨5,p,w,e⟩) (hl:all.length≤10000):Suk 100 [.ptr 0 0,inA d] [psB all i] (.tup [.agg [inA 1,stA w,stA e,stA [],stA [],stA [],.nil],seA]) [psB all ((i+1:Nat):Int)] :=
 psw (n:=1) (ks:=[0]) (an:=[.av (tokP ⟨5,p,w,e⟩),.no,.no,.no,.no,.av (inA ((i+1:Nat):Int))]) (ls:=[]) (ps:=[IxAt (List.map tokC all) ↑i 5 ([(.val (vi ({ kind:=5,pos:=p,text:=w,den:=e:Rdr.Tok }.kind))),(.val (vi (↑{ kind:=5,pos:=p,text:=w,den:=e:Rdr.Tok }.pos))),(.val (str [])),(.val (Value.string ({ data:={ kind:=5,pos:=p,text:=w,den:=e:Rdr.Tok }.text.toArray:ByteArray }))),(.val (Value.string ({ data:={ kind:=5,pos:=p,text:=w,den:=e:Rdr.Tok }.den.toArray:ByteArray })))]),Bn .add 3 (.tmp 43) (.const (vi 1)) (vi ↑i) (vi 1) (vi (↑(i+1)))]) Tryz.func100 (by kernel_rfl) (by kernel_rfl) ⟨ix_tok h,bin_iadd (by omega) (by omega) (by have:=(List.getElem?_eq_some_iff.1 h).1;omega),trivial⟩
theorem p_objS {all:List Rdr.Tok} {i p:Nat} {d:Int} {w e:List UInt8} (h:all[i]?=some ⟨6,p,w,e⟩) (hl:all.length≤10000) (h0:1≤w.length) (h1:w.length≤40):Suk 100 [.ptr 0 0,inA d] [psB all i] (.tup [obA ⟨2,[],[],lispB,w,[],[]⟩,seA]) [psB all ((i+1:Nat):Int)] :=
 psw (n:=1) (ks:=[0]) (an:=[.av (tokP ⟨6,p,w,e⟩),.no,.no,.no,.no,.no,.no,.av (inA ((i+1:Nat):Int)),.no,.av (.tup [syA lispB w,inA 0]),.no,.av (obA ⟨2,[],[],lispB,w,[],[]⟩)]) (ls:=[]) (ps:=[IxAt (List.map tokC all) ↑i 5 ([(.val (vi ({ kind:=6,pos:=p,text:=w,den:=e:Rdr.Tok }.kind))),(.val (vi (↑{ kind:=6,pos:=p,text:=w,den:=e:Rdr.Tok }.pos))),(.val (str [])),(.val (Value.string ({ data:={ kind:=6,pos:=p,text:=w,den:=e:Rdr.Tok }.text.toArray:ByteArray }))),(.val (Value.string ({ data:={ kind:=6,pos:=p,text:=w,den:=e:Rdr.Tok }.den.toArray:ByteArray })))]),Bn .add 3 (.tmp 71) (.const (vi 1)) (vi ↑i) (vi 1) (vi (↑(i+1))),Puk 126 [(.dt (.row [[(.val (str lispB)),(.row [])]])),(stA lispB),(.dt (.val (Value.string ({ data:={ kind:=6,pos:=p,text:=w,den:=e:Rdr.Tok }.text.toArray:ByteArray }))))] (.tup [(syA lispB w),(inA 0)]),Puk 59 [(syA lispB w)] (obA ({ kind:=2,num:=[],den:=[],sp:=lispB,sn:=w,text:=[],pair:=[]:Ob }))]) Tryz.func100 (by kernel_rfl) (by kernel_rfl) ⟨ix_tok h,bin_iadd (by omega) (by omega) (by have:=(List.getElem?_eq_some_iff.1 h).1;omega),p_Intern1 h0 h1,p_rSym _ _,trivial⟩
theorem p_objL {all:List Rdr.Tok} {i k p:Nat} {d:Int} {w e:List UInt8} {o:Ob} (h:all[i]?=some ⟨1,p,w,e⟩) (hl:all.length≤10000) (hd0:0≤d) (hd:d≤200) (hs:Suk 127 [.ptr 0 0,inA (d+1)] [psB all ((i+1:Nat):Int)] (.tup [obA o,seA]) [psB all k]):Suk 100 [.ptr 0 0,inA d] [psB all i] (.tup [obA o,seA]) [psB all k] :=
 psw (n:=1) (ks:=[0]) (an:=[.av (tokP ⟨1,p,w,e⟩),.no,.no,.no,.no,.no,.no,yF,.av (inA ((i+1:Nat):Int)),.no,.av (inA (d+1))]) (ls:=[.scl 32 3 [0] (.tup [obA o,seA]) [psB all k]]) (ps:=[IxAt (List.map tokC all) ↑i 5 ([(.val (vi ({ kind:=1,pos:=p,text:=w,den:=e:Rdr.Tok }.kind))),(.val (vi (↑{ kind:=1,pos:=p,text:=w,den:=e:Rdr.Tok }.pos))),(.val (str [])),(.val (Value.string ({ data:={ kind:=1,pos:=p,text:=w,den:=e:Rdr.Tok }.text.toArray:ByteArray }))),(.val (Value.string ({ data:={ kind:=1,pos:=p,text:=w,den:=e:Rdr.Tok }.den.toArray:ByteArray })))]),Bn .gtr 3 (.tmp 104) (.const (vi 200)) (vi d) (vi 200) bF,Bn .add 3 (.tmp 113) (.const (vi 1)) (vi ↑i) (vi 1) (vi (↑(i+1))),Bn .add 3 (.tmp 139) (.const (vi 1)) (vi d) (vi 1) (vi (d+1)),Suk 127 [AV.ptr 0 0,AV.dt (Dt.val (vi (d+1)))] [some (Bx.cells [AV.dt (Dt.row pkg1),AV.dt (Dt.val (str lispB)),AV.dt (Dt.row (List.map tokC all)),AV.dt (Dt.val (vi ↑(i+1)))])] (AV.tup [obA o,seA]) [psB all ↑k]]) Tryz.func100 (by kernel_rfl) (by kernel_rfl) ⟨ix_tok h,bin_igt (decide_eq_false (by omega)),bin_iadd (by omega) (by omega) (by have:=(List.getElem?_eq_some_iff.1 h).1;omega),bin_iadd rfl (by omega) (by omega),hs,trivial⟩
end Go.Proofs.YthhknjlmjefklaaGreatDoor
namespace Go.Proofs.YthhknjlmjefklaaGreatDoor
open Go.RowKit
theorem src_ob1 (o:Ob):SrcOK 7 [encL o]:=by
 intro x hx
 rw [List.mem_singleton] at hx
 subst hx
 refine ⟨rfl,fun d hd=>?_⟩
 simp only [List.mem_cons,List.not_mem_nil,or_false] at hd
 rcases hd with rfl | rfl | rfl | rfl | rfl | rfl | rfl <;> rfl
abbrev zOc:Option Bx:=some (.cells [inA 0,stA [],stA [],stA [],stA [],stA [],.nil])
abbrev seC:Option Bx:=some (.cells [inA 0,inA 0])
abbrev obC (o:Ob):Option Bx:=some (.cells [inA o.kind,stA o.num,stA o.den,stA o.sp,stA o.sn,stA o.text,.dt (.row (o.pair.map Ob.enc))])
abbrev lsX (all:List Rdr.Tok) (i:Int) (last:Ob):List (Option Bx):=[psB all i,zOc,seC,obC last]
abbrev lsS (all:List Rdr.Tok) (i d:Int) (es:List (List Dt)):AS:=⟨stt 124 [(0,.ptr 0 0),(1,inA d),(4,.ptr 1 0),(5,.ptr 2 0),(6,.own 4 es.length),(7,.ptr 3 0)],lsX all i nilO++[some (.buf 37 7 es)]⟩
abbrev ls0 (all:List Rdr.Tok) (i d:Int):AS:=⟨stt 124 [(0,.ptr 0 0),(1,inA d),(4,.ptr 1 0),(5,.ptr 2 0),(6,.nil),(7,.ptr 3 0)],lsX all i nilO⟩
noncomputable abbrev lsB:Code:=subC (bodyOf Tryz.f127) [1,1,1,0,0,0]
theorem lsB1 {all:List Rdr.Tok} {i k:Nat} {d:Int} {es:List (List Dt)} {t:Rdr.Tok} {o:Ob} (h:all[i]?=some t) (h2:t.kind≠2) (h3:t.kind≠3) (he:es.length≤10000) (ho:Suk 100 [.ptr 0 0,inA d] [psB all i] (.tup [obA o,seA]) [psB all k]):Tri (EXn 1) lsB (lsS all i d es) .nxt (lsS all k d (es++[encL o])) :=
 tw (E:=EXn 1) (c:=subC (bodyOf Tryz.f127) [1,1,1,0,0,0]) (s:=lsS all i d es) (an:=[.av (tokP t),yT,.av (tokP t),yF,.no,.av (.un)]) (ls:=[.scl 16 2 [0] (.tup [obA o,seA]) [psB all k]]) (ft:=[0,1,4,5,6,7]) (nb:=5) (e:=.nxt) (s':=lsS all k d (es++[encL o])) (ps:=[IxAt (List.map tokC all) ↑i 5 ([(.val (vi t.kind)),(.val (vi ↑t.pos)),(.val (str [])),(.val (str t.text)),(.val (str t.den))]),Bn .neq 3 (.tmp 25) (.const (vi 2)) (vi t.kind) (vi 2) bT,IxAt (List.map tokC all) ↑i 5 ([(.val (vi t.kind)),(.val (vi ↑t.pos)),(.val (str [])),(.val (str t.text)),(.val (str t.den))]),Bn .eql 3 (.tmp 37) (.const (vi 3)) (vi t.kind) (vi 3) bF,Suk 100 [AV.ptr 0 0,AV.dt (Dt.val (vi d))] [some (Bx.cells [AV.dt (Dt.row pkg1),AV.dt (Dt.val (str lispB)),AV.dt (Dt.row (List.map tokC all)),AV.dt (Dt.val (vi ↑i))])] (AV.tup [obA o,seA]) [psB all ↑k],(es.length)=(es.length),FitB 112 ((es++[[Dt.val (vi o.kind),Dt.val (str o.num),Dt.val (str o.den),Dt.val (str o.sp),Dt.val (str o.sn),Dt.val (str o.text),Dt.row (List.map Ob.enc o.pair)]]).length),SrcOK 7 [encL o]]) (by kernel_rfl)
  ⟨ix_tok h,bin_ine (by simp [h2]),ix_tok h,bin_ieq (decide_eq_false h3),ho,rfl,fit_of (by omega) (by simp;omega),src_ob1 o,trivial⟩
theorem lsB2 {all:List Rdr.Tok} {i:Nat} {d:Int} {es:List (List Dt)} {t:Rdr.Tok} (h:all[i]?=some t) (h2:t.kind=2):Tri (EXn 1) lsB (lsS all i d es) (.out 0) (lsS all i d es) :=
 tw (E:=EXn 1) (c:=subC (bodyOf Tryz.f127) [1,1,1,0,0,0]) (s:=lsS all i d es) (an:=[.av (tokP t),yF]) (ls:=[]) (ft:=[0,1,4,5,6,7]) (nb:=5) (e:=.out 0) (s':=lsS all i d es) (ps:=[IxAt (List.map tokC all) ↑i 5 ([(.val (vi t.kind)),(.val (vi ↑t.pos)),(.val (str [])),(.val (str t.text)),(.val (str t.den))]),Bn .neq 3 (.tmp 25) (.const (vi 2)) (vi t.kind) (vi 2) bF]) (by kernel_rfl)
  ⟨ix_tok h,bin_ine (by simp [h2]),trivial⟩
abbrev lsE (all:List Rdr.Tok) (i d:Int) (es:List (List Dt)):AS:=⟨stt 124 [(0,.ptr 0 0),(1,inA d),(4,.ptr 1 0),(5,.ptr 2 0),(6,.dt (.row es)),(7,.ptr 3 0)],lsX all i nilO++[some (.fzn es)]⟩
abbrev lbS (all:List Rdr.Tok) (i:Int) (last:Ob) (es:List (List Dt)) (j:Int):AS:=⟨stt 124 [(4,.ptr 1 0),(5,.ptr 2 0),(6,.dt (.row es)),(7,.ptr 3 0),(13,inA j)],lsX all i last⟩
noncomputable abbrev lbB:Code:=subC (bodyOf Tryz.f127) [1,1,1,1,1,0,1,0,0]
theorem lbB1 {all:List Rdr.Tok} {i:Int} {last o o2:Ob} {es:List (List Dt)} {j:Nat} (hx:es[j]?=some (encL o)) (hl:es.length≤10000) (hc:Puk 69 [obA o,obA last] (obA o2)):Tri (EXn 1) lbB (lbS all i last es j) .nxt (lbS all i o2 es ((j:Int) - 1)) :=
 tw (E:=EXn 1) (c:=subC (bodyOf Tryz.f127) [1,1,1,1,1,0,1,0,0]) (s:=lbS all i last es j) (an:=[yT,.av (.pin ((encL o).map .dt)),.av (obA o2),.av (inA ((j:Int) - 1))]) (ls:=[]) (ft:=[4,5,6,7,13]) (nb:=4) (e:=.nxt) (s':=lbS all i o2 es ((j:Int) - 1)) (ps:=[Bn .geq 3 (.tmp 112) (.const (vi 0)) (vi ↑j) (vi 0) bT,IxAt es ↑j 7 (encL o),Puk 69 [(obA o),(obA last)] (obA o2),Bn .sub 3 (.tmp 114) (.const (vi 1)) (vi ↑j) (vi 1) (vi (↑j - 1))]) (by kernel_rfl)
  ⟨bin_ige (decide_eq_true (by omega)),⟨by omega,by rw [Int.toNat_natCast];exact hx,rfl⟩,hc,bin_isub rfl (by omega) (by have:=(List.getElem?_eq_some_iff.1 hx).1;omega),trivial⟩
theorem lbB2 {all:List Rdr.Tok} {i:Int} {last:Ob} {es:List (List Dt)} {j:Int} (hj:j < 0):Tri (EXn 1) lbB (lbS all i last es j) (.out 3) (lbS all i last es j) :=
 tw (E:=EXn 1) (c:=subC (bodyOf Tryz.f127) [1,1,1,1,1,0,1,0,0]) (s:=lbS all i last es j) (an:=[yF]) (ls:=[]) (ft:=[4,5,6,7,13]) (nb:=4) (e:=.out 3) (s':=lbS all i last es j) (ps:=[Bn .geq 3 (.tmp 112) (.const (vi 0)) (vi j) (vi 0) bF]) (by kernel_rfl)
  ⟨bin_ige (decide_eq_false (by omega)),trivial⟩
theorem lb_loop {all:List Rdr.Tok} {i:Int} {l:List Tr} (hl:l.length≤10000):∀ (j:Nat),j≤l.length→Lps (EXn 1) lbB (lbS all i (Tr.list (l.drop j)).ob (encOs l) ((j:Int) - 1)) (.out 3) (lbS all i (Tr.list l).ob (encOs l) (-1)):=by
 intro j
 induction j with
 | zero =>
  intro _
  rw [List.drop_zero]
  exact .stop (lbB2 (by omega)) (fun h=>by cases h)
 | succ j ih =>
  intro hj
  have hx:(encOs l)[j]?=some (encL (l[j]'(by omega)).ob):=by
   unfold encOs
   rw [List.getElem?_map,List.getElem?_eq_getElem (by omega)]
   rfl
  have hc:=p_rCons (l[j]'(by omega)).ob (Tr.list (l.drop (j+1))).ob
  have e:consO (l[j]'(by omega)).ob (Tr.list (l.drop (j+1))).ob=(Tr.list (l.drop j)).ob:=by
   rw [List.drop_eq_getElem_cons (show j < l.length by omega)]
   rfl
  rw [e] at hc
  have h1:=lbB1 (all:=all) (i:=i) hx (by unfold encOs;rw [List.length_map];omega) hc
  rw [show (((j+1:Nat):Int) - 1)=(j:Int) by omega]
  exact .more h1 (ih (by omega))
theorem w_list {all:List Rdr.Tok} {i k:Nat} {d:Int} {o:Ob} {es:List (List Dt)} (h1:Tri (EXn 1) (.loop lsB) (ls0 all i d) (.out 0) (lsE all k d es)) (hk:k≤10000) (he:es.length≤10000) (h2:Tri (EXn 1) (.loop lbB) (lbS all ((k+1:Nat):Int) nilO es ((es.length:Int) - 1)) (.out 3) (lbS all ((k+1:Nat):Int) o es (-1))):Suk 127 [.ptr 0 0,inA d] [psB all i] (.tup [obA o,seA]) [psB all ((k+1:Nat):Int)] :=
 psw (n:=1) (ks:=[0]) (an:=[.av (obA nilO),.av (inA ((k+1:Nat):Int)),.av (inA es.length),.av (inA ((es.length:Int) - 1))]) (ls:=[.inv [0,1,4,5,6,7] 4 (.out 0) (lsE all k d es),.inv [4,5,6,7,13] 4 (.out 3) (lbS all ((k+1:Nat):Int) o es (-1))]) (ps:=[Puk 28 [] (obA nilO),Tri (EXn 1) (.loop (subC (bodyOf Tryz.f127) [1,1,1,0,0,0])) (ls0 all i d) (.out 0) (lsE all k d es),Bn .add 3 (.tmp 105) (.const (vi 1)) (vi ↑k) (vi 1) (vi (↑(k+1))),(vi ↑es.length)=(vi ↑es.length),Bn .sub 3 (.tmp 110) (.const (vi 1)) (vi ↑es.length) (vi 1) (vi (↑es.length - 1)),Tri (EXn 1) (.loop (subC (bodyOf Tryz.f127) [1,1,1,1,1,0,1,0,0])) (lbS all ((k+1:Nat):Int) nilO es ((es.length:Int) - 1)) (.out 3) (lbS all ((k+1:Nat):Int) o es (-1))]) Tryz.func127 (by kernel_rfl) (by kernel_rfl) ⟨p_rNil,h1,bin_iadd (by omega) (by omega) (by omega),rfl,bin_isub rfl (by omega) (by omega),h2,trivial⟩
end Go.Proofs.YthhknjlmjefklaaGreatDoor
namespace Go.Proofs.YthhknjlmjefklaaGreatDoor
open Go.RowKit
namespace Rdr
theorem prO_0 (d:Nat) (ts:List Tok):prO 0 d ts=none:=by rw [prO.eq_def]
theorem prL_0 (d:Nat) (ts:List Tok):prL 0 d ts=none:=by rw [prL.eq_def]
theorem prO_n (f d:Nat):prO f d []=none:=by cases f <;> rw [prO.eq_def]
theorem prL_n (f d:Nat):prL f d []=none:=by cases f <;> rw [prL.eq_def]
theorem prO_c (f d:Nat) (t:Tok) (r:List Tok):prO (f+1) d (t::r)=(if t.kind=5 then some (.num (numOf t.text),r)
   else if t.kind=6 then some (.sym lispB t.text,r)
   else if t.kind=1∧d≤200 then match prL f (d+1) r with
    | some (l,r')=>some (Tr.list l,r')
    | none=>none
   else none):=by rw [prO.eq_def];rfl
theorem prL_c (f d:Nat) (t:Tok) (r:List Tok):prL (f+1) d (t::r)=(if t.kind=2 then some ([],r)
   else match prO f d (t::r) with
    | some (x,r1)=>match prL f d r1 with
     | some (l,r2)=>some (x::l,r2)
     | none=>none
    | none=>none):=by rw [prL.eq_def];rfl
end Rdr
def TokOK (t:Rdr.Tok):Bool:=(!decide (t.kind=5) || (t.den == [49] && (t.text == [48] || t.text == [49] || t.text == [45,49]))) && (!decide (t.kind=6) || (decide (1≤t.text.length) && decide (t.text.length≤40)))
theorem num_ob {w:List UInt8} (h:(w == [48] || w == [49] || w == [45,49])=true):(Tr.num (Rdr.numOf w)).ob=⟨1,w,[49],[],[],[],[]⟩:=by
 simp only [Bool.or_eq_true,beq_iff_eq] at h
 rcases h with (rfl | rfl) | rfl <;> decide +kernel
theorem prO_kind {f d:Nat} {t:Rdr.Tok} {ts:List Rdr.Tok} {y:Tr×List Rdr.Tok} (h:Rdr.prO f d (t::ts)=some y):t.kind≠3:=by
 cases f with
 | zero=>rw [Rdr.prO_0] at h;cases h
 | succ f =>
  rw [Rdr.prO_c] at h
  intro e
  rw [e] at h
  simp at h
theorem drop_one {α:Type} {l:List α} {i:Nat} {t:α} {r:List α} (h:l.drop i=t::r):l[i]?=some t∧l.drop (i+1)=r∧i < l.length:=by
 have h1:l[i]?=some t:=by rw [← List.head?_drop,h];rfl
 exact ⟨h1,by rw [← List.drop_drop,h];rfl,(List.getElem?_eq_some_iff.1 h1).1⟩
def ObP (all:List Rdr.Tok) (f:Nat):Prop:=∀ (d i:Nat) (x:Tr) (r:List Rdr.Tok),Rdr.prO f d (all.drop i)=some (x,r)→d≤300→∃ k,i < k∧k≤all.length∧r=all.drop k∧Suk 100 [.ptr 0 0,inA d] [psB all i] (.tup [trA x,seA]) [psB all k]
def LsP (all:List Rdr.Tok) (f:Nat):Prop:=∀ (d i:Nat) (l:List Tr) (r:List Rdr.Tok) (es:List (List Dt)),Rdr.prL f d (all.drop i)=some (l,r)→d≤300→es.length≤i→∃ k,i≤k∧k < all.length∧r=all.drop (k+1)∧es.length+l.length≤k∧Lps (EXn 1) lsB (lsS all i d es) (.out 0) (lsS all k d (es++encOs l))
theorem p_pr {all:List Rdr.Tok} (hl:all.length≤5000) (hok:∀ t∈all,TokOK t=true):∀ f,ObP all f∧LsP all f:=by
 intro f
 induction f with
 | zero=>exact ⟨fun d i x r h _=>(by rw [Rdr.prO_0] at h;cases h),fun d i l r es h _ _=>(by rw [Rdr.prL_0] at h;cases h)⟩
 | succ f ih =>
  obtain ⟨ihO,ihL⟩:=ih
  refine ⟨fun d i x r h hd=>?_,fun d i l r es h hd he=>?_⟩
  ·cases hts:all.drop i with
   | nil=>rw [hts,Rdr.prO_n] at h;cases h
   | cons t ts =>
    rw [hts,Rdr.prO_c] at h
    obtain ⟨ht,hd1,hlt⟩:=drop_one hts
    have hk:=hok t (List.mem_of_getElem? ht)
    obtain ⟨tk,tp,tw,td⟩:=t
    unfold TokOK at hk
    simp only at hk h
    by_cases h5:tk=5
    ·subst h5
     rw [if_pos rfl] at h
     cases h
     simp only [decide_true,Bool.not_true,Bool.false_or,Bool.and_eq_true] at hk
     obtain ⟨⟨k1,k2⟩,_⟩:=hk
     rw [beq_iff_eq] at k1
     subst k1
     refine ⟨i+1,by omega,by omega,hd1.symm,(p_objN ht (by omega)).cast fun M w v hv=>?_⟩
     show RV M w (.tup [obA (Tr.num (Rdr.numOf tw)).ob,seA]) v
     rw [num_ob k2]
     obtain ⟨vs,rfl,u0,us0,rfl,⟨ws,rfl,w0,vs0,rfl,a0,w1,vs1,rfl,a1,w2,vs2,rfl,a2,w3,vs3,rfl,a3,w4,vs4,rfl,a4,w5,vs5,rfl,a5,w6,vs6,rfl,a6,a7⟩,b1⟩:=hv
     exact ⟨_,rfl,_,_,rfl,⟨_,rfl,w0,_,rfl,a0,w1,_,rfl,a1,w2,_,rfl,a2,w3,_,rfl,a3,w4,_,rfl,a4,w5,_,rfl,a5,w6,_,rfl,RV.nilRow a6,a7⟩,b1⟩
    rw [if_neg h5] at h
    by_cases h6:tk=6
    ·subst h6
     rw [if_pos rfl] at h
     cases h
     simp only [decide_true,Bool.not_true,Bool.false_or,Bool.and_eq_true,decide_eq_true_eq] at hk
     exact ⟨i+1,by omega,by omega,hd1.symm,p_objS ht (by omega) hk.2.1 hk.2.2⟩
    rw [if_neg h6] at h
    by_cases h1:tk=1∧d≤200
    ·rw [if_pos h1] at h
     obtain ⟨h1,h200⟩:=h1
     subst h1
     split at h
     ·rename_i l r' hpl
      cases h
      rw [← hd1] at hpl
      obtain ⟨k,g1,g2,g3,g4,g5⟩:=ihL (d+1) (i+1) l _ [] hpl (by omega) (Nat.zero_le _)
      have g6:Tri (EXn 1) (.loop lsB) (ls0 all ((i+1:Nat):Int) ((d+1:Nat):Int)) (.out 0) (lsS all k ((d+1:Nat):Int) (encOs l)):=Tri.own0 6 37 7 (by show 6 < 124;omega) rfl g5.tri
      have g7:Tri (EXn 1) (.loop lsB) (ls0 all ((i+1:Nat):Int) ((d+1:Nat):Int)) (.out 0) (lsE all k ((d+1:Nat):Int) (encOs l)):=Tri.frz 6 4 (T:=37) (kk:=7) (by show 6 < 124;omega) rfl rfl g6
      have hln:(encOs l).length=l.length:=List.length_map ..
      have g8:=(lb_loop (all:=all) (i:=((k+1:Nat):Int)) (l:=l) (by rw [List.length_nil] at g4;omega) l.length (Nat.le_refl _)).tri
      rw [List.drop_length,← hln] at g8
      have g9:=w_list g7 (by omega) (by rw [hln];rw [List.length_nil] at g4;omega) g8
      exact ⟨k+1,by omega,by omega,g3,p_objL ht (by omega) (by omega) (by omega) g9⟩
     ·cases h
    ·rw [if_neg h1] at h;cases h
  ·cases hts:all.drop i with
   | nil=>rw [hts,Rdr.prL_n] at h;cases h
   | cons t ts =>
    rw [hts,Rdr.prL_c] at h
    obtain ⟨ht,hd1,hlt⟩:=drop_one hts
    by_cases h2:t.kind=2
    ·rw [if_pos h2] at h
     cases h
     refine ⟨i,Nat.le_refl _,hlt,hd1.symm,by simpa using he,?_⟩
     rw [show es++encOs []=es from List.append_nil _]
     exact .stop (lsB2 ht h2) (fun h=>by cases h)
    ·rw [if_neg h2] at h
     split at h
     ·rename_i x r1 hpo
      split at h
      ·rename_i l' r2 hpl
       cases h
       have h3:=prO_kind hpo
       rw [← hts] at hpo
       obtain ⟨k1,a1,a2,a3,a4⟩:=ihO d i x r1 hpo hd
       rw [a3] at hpl
       obtain ⟨k,g1,g2,g3,g4,g5⟩:=ihL d k1 l' _ (es++[encL x.ob]) hpl hd (by rw [List.length_append,List.length_singleton];omega)
       rw [List.length_append,List.length_singleton] at g4
       rw [List.append_assoc] at g5
       exact ⟨k,by omega,g2,g3,by rw [List.length_cons];omega,.more (lsB1 ht h2 h3 (by omega) a4) g5⟩
      ·cases h
     ·cases h
end Go.Proofs.YthhknjlmjefklaaGreatDoor
namespace Go.Proofs.YthhknjlmjefklaaGreatDoor
open Go.RowKit
namespace Rdr
theorem prs_c (f:Nat) (t:Tok) (r:List Tok):prs (f+1) (t::r)=(if t.kind=0 then some []
   else match prO f 0 (t::r) with
    | some (x,r1)=>match prs f r1 with
     | some l=>some (x::l)
     | none=>none
    | none=>none):=by rw [prs.eq_def];rfl
theorem prs_n (f:Nat):prs f []=none:=by cases f <;> rw [prs.eq_def]
theorem prs_0 (ts:List Tok):prs 0 ts=none:=by rw [prs.eq_def]
def okT:Tr→Bool
 | .num q=>decide (q.num.natAbs < 10000) && decide (q.den < 10000)
 | .sym p n=>decide (p.length≤1000) && decide (n.length≤1000)
 | .txt s=>decide (s.length≤1000)
 | .cons a d=>okT a && okT d
theorem okT_ok:∀ {t:Tr},okT t=true→t.Ok 10000
 | .num q,h=>by
  unfold okT at h
  simp only [Bool.and_eq_true,decide_eq_true_eq] at h
  exact Tr.Ok.mono (k:=4) (t:=.num q) (by decide) ⟨h.1,h.2,by decide⟩
 | .sym p n,h=>by
  unfold okT at h
  simp only [Bool.and_eq_true,decide_eq_true_eq] at h
  exact ⟨by omega,by omega⟩
 | .txt s,h=>by
  unfold okT at h
  simp only [decide_eq_true_eq] at h
  show s.length≤100000
  omega
 | .cons a d,h=>by
  unfold okT at h
  simp only [Bool.and_eq_true] at h
  exact ⟨okT_ok h.1,okT_ok h.2⟩
end Rdr
abbrev rfX (all:List Rdr.Tok) (i:Int):List (Option Bx):=[seC,seC,psB all i]
abbrev rfS (all:List Rdr.Tok) (i:Int) (es:List (List Dt)):AS:=⟨stt 97 [(7,.ptr 0 0),(10,.ptr 2 0),(11,.own 3 es.length)],rfX all i++[some (.buf 37 7 es)]⟩
abbrev rf0 (all:List Rdr.Tok) (i:Int):AS:=⟨stt 97 [(7,.ptr 0 0),(10,.ptr 2 0),(11,.nil)],rfX all i⟩
noncomputable abbrev rfB:Code:=subC (bodyOf Tryz.f60) [1,1,1,1,1,0,0,0]
theorem rfB1 {all:List Rdr.Tok} {i k:Nat} {n:Int} {es:List (List Dt)} {t:Rdr.Tok} {o:Ob} (h:all[i]?=some t) (h0:t.kind≠0) (he:es.length < 100) (ho:Suk 100 [.ptr 0 0,inA 0] [psB all i] (.tup [obA o,seA]) [psB all k]) (hn:Puk 101 [obA o] (inA n)) (hn3:n≤3000):Tri EX rfB (rfS all i es) .nxt (rfS all k (es++[encL o])) :=
 twalk (c:=subC (bodyOf Tryz.f60) [1,1,1,1,1,0,0,0]) (s:=rfS all i es) (an:=[.av (tokP t),yT,.av (tokP t),.av (tokP t),.av (inA es.length),yF,.no,.av (inA n),yF,.av (.un)]) (ls:=[.scl 11 1 [2] (.tup [obA o,seA]) [psB all k]]) (ft:=[7,10,11]) (nb:=4) (e:=.nxt) (s':=rfS all k (es++[encL o])) (ps:=[IxAt (List.map tokC all) ↑i 5 ([(.val (vi t.kind)),(.val (vi ↑t.pos)),(.val (str [])),(.val (str t.text)),(.val (str t.den))]),Bn .neq 3 (.tmp 40) (.const (vi 0)) (vi t.kind) (vi 0) bT,IxAt (List.map tokC all) ↑i 5 ([(.val (vi t.kind)),(.val (vi ↑t.pos)),(.val (str [])),(.val (str t.text)),(.val (str t.den))]),IxAt (List.map tokC all) ↑i 5 ([(.val (vi t.kind)),(.val (vi ↑t.pos)),(.val (str [])),(.val (str t.text)),(.val (str t.den))]),(vi ↑es.length)=(vi ↑es.length),Bn .geq 3 (.tmp 65) (.const (vi 100)) (vi ↑es.length) (vi 100) bF,Suk 100 [AV.ptr 0 0,AV.dt (Dt.val (vi 0))] [some (Bx.cells [AV.dt (Dt.row pkg1),AV.dt (Dt.val (str lispB)),AV.dt (Dt.row (List.map tokC all)),AV.dt (Dt.val (vi ↑i))])] (AV.tup [obA o,seA]) [psB all ↑k],Puk 101 [(obA o)] (inA n),Bn .gtr 3 (.tmp 87) (.const (vi 3000)) (vi n) (vi 3000) bF,(es.length)=(es.length),FitB 112 ((es++[[Dt.val (vi o.kind),Dt.val (str o.num),Dt.val (str o.den),Dt.val (str o.sp),Dt.val (str o.sn),Dt.val (str o.text),Dt.row (List.map Ob.enc o.pair)]]).length),SrcOK 7 [encL o]]) (by kernel_rfl)
  ⟨ix_tok h,bin_ine (by simp [h0]),ix_tok h,ix_tok h,rfl,bin_ige (decide_eq_false (by omega)),ho,hn,bin_igt (decide_eq_false (by omega)),rfl,fit_of (by omega) (by simp;omega),src_ob1 o,trivial⟩
theorem rfB2 {all:List Rdr.Tok} {i:Nat} {es:List (List Dt)} {t:Rdr.Tok} (h:all[i]?=some t) (h0:t.kind=0):Tri EX rfB (rfS all i es) (.out 0) (rfS all i es) :=
 twalk (c:=subC (bodyOf Tryz.f60) [1,1,1,1,1,0,0,0]) (s:=rfS all i es) (an:=[.av (tokP t),yF]) (ls:=[]) (ft:=[7,10,11]) (nb:=4) (e:=.out 0) (s':=rfS all i es) (ps:=[IxAt (List.map tokC all) ↑i 5 ([(.val (vi t.kind)),(.val (vi ↑t.pos)),(.val (str [])),(.val (str t.text)),(.val (str t.den))]),Bn .neq 3 (.tmp 40) (.const (vi 0)) (vi t.kind) (vi 0) bF]) (by kernel_rfl)
  ⟨ix_tok h,bin_ine (by simp [h0]),trivial⟩
theorem rf_loop {all:List Rdr.Tok} (hl:all.length≤5000) (hok:∀ t∈all,TokOK t=true):∀ (f i:Nat) (l:List Tr) (es:List (List Dt)),Rdr.prs f (all.drop i)=some l→(∀ x∈l,x.Ok 10000∧x.ob.nodes≤3000)→es.length+l.length≤99→∃ k:Nat,Lps EX rfB (rfS all i es) (.out 0) (rfS all k (es++encOs l)):=by
 intro f
 induction f with
 | zero=>intro i l es h;rw [Rdr.prs_0] at h;cases h
 | succ f ih =>
  intro i l es h hx hlen
  cases hts:all.drop i with
  | nil=>rw [hts,Rdr.prs_n] at h;cases h
  | cons t ts =>
   rw [hts,Rdr.prs_c] at h
   obtain ⟨ht,hd1,hlt⟩:=drop_one hts
   by_cases h0:t.kind=0
   ·rw [if_pos h0] at h
    cases h
    refine ⟨i,?_⟩
    rw [show es++encOs []=es from List.append_nil _]
    exact .stop (rfB2 ht h0) (fun h=>by cases h)
   ·rw [if_neg h0] at h
    split at h
    ·rename_i x r1 hpo
     split at h
     ·rename_i l' hpl
      cases h
      rw [← hts] at hpo
      obtain ⟨k1,a1,a2,a3,a4⟩:=(p_pr hl hok f).1 0 i x r1 hpo (by omega)
      rw [a3] at hpl
      rw [List.length_cons] at hlen
      obtain ⟨g1,g2⟩:=hx x (List.mem_cons_self ..)
      have hP:=Te.nodesP_min x.ob
      obtain ⟨k,g5⟩:=ih k1 l' (es++[encL x.ob]) hpl (fun y hy=>hx y (List.mem_cons_of_mem _ hy)) (by rw [List.length_append,List.length_singleton];omega)
      rw [List.append_assoc] at g5
      exact ⟨k,.more (rfB1 ht h0 (by omega) a4 (p_rNodesO (g1.wf (by decide))) (by omega)) g5⟩
     ·cases h
    ·cases h
theorem w_Read {s:List UInt8} {all:List Rdr.Tok} {k:Nat} {es:List (List Dt)} (ht:Puk 98 [stA s] (.tup [toksA all,seA])) (hl:Tri EX (.loop rfB) (rf0 all 0) (.out 0) (rfS all k es)):Puk 60 [.dt (.row pkg1),stA lispB,stA s] (.tup [.dt (.row es),seA]) :=
 pwalk (an:=[.av (.tup [toksA all,seA]),.no]) (ls:=[.inv [7,10,11] 3 (.out 0) (rfS all k es)]) (ps:=[Puk 98 [(stA s)] (.tup [(.dt (.row (List.map tokC all))),(.agg [(inA 0),(inA 0)])]),Tri EX (.loop (subC (bodyOf Tryz.f60) [1,1,1,1,1,0,0,0])) (rf0 all 0) (.out 0) (rfS all k es),(es.length)=(es.length)]) Tryz.func60 (by kernel_rfl) (by kernel_rfl) ⟨ht,hl,rfl,trivial⟩
theorem p_Read {s:List UInt8} {l:List Tr} {f:Nat} (hs:Txt s) (hw:∀ t∈Rdr.tk 0 s,t.kind=5∨t.kind=6→Rdr.wOK t.text=true) (hok:∀ t∈Rdr.tk 0 s,TokOK t=true) (hn:(Rdr.tk 0 s).length≤5000) (hp:Rdr.prs f (Rdr.tk 0 s)=some l) (hx:∀ x∈l,x.Ok 10000∧x.ob.nodes≤3000) (hl:l.length≤99):Puk 60 [.dt (.row pkg1),stA lispB,stA s] (.tup [rowA l,seA]):=by
 obtain ⟨k,g⟩:=rf_loop hn hok f 0 l [] hp hx (by rw [List.length_nil];omega)
 have g6:Tri EX (.loop rfB) (rf0 (Rdr.tk 0 s) 0) (.out 0) (rfS (Rdr.tk 0 s) k (encOs l)):=Tri.own0 11 37 7 (by show 11 < 97;omega) rfl g.tri
 exact w_Read (p_Tokens hs hw) g6
end Go.Proofs.YthhknjlmjefklaaGreatDoor
namespace Go.Proofs.YthhknjlmjefklaaGreatDoor
open Go.RowKit
theorem p_Text:Puk 62 [] (stA textB):=pwalk (an:=[]) (ls:=[]) (ps:=[]) Tryz.func62 (by kernel_rfl) (by kernel_rfl) trivial
def allB:List Rdr.Tok:=Rdr.tk 0 textB
def forms:List Tr:=(Rdr.prs 3000 allB).getD []
theorem txtB:Txt textB:=⟨by decide +kernel,by
 have h:textB.all Rdr.few=true:=by decide +kernel
 exact List.all_eq_true.1 h⟩
theorem allB_w:∀ t∈Rdr.tk 0 textB,t.kind=5∨t.kind=6→Rdr.wOK t.text=true:=by
 have h:Rdr.toksOK (Rdr.tk 0 textB)=true:=by decide +kernel
 intro t ht hk
 have:=List.all_eq_true.1 h t ht
 rwa [if_pos hk] at this
theorem allB_ok:∀ t∈Rdr.tk 0 textB,TokOK t=true:=by
 have h:(Rdr.tk 0 textB).all TokOK=true:=by decide +kernel
 exact List.all_eq_true.1 h
theorem allB_len:(Rdr.tk 0 textB).length≤5000:=by decide +kernel
theorem forms_eq:Rdr.prs 3000 (Rdr.tk 0 textB)=some forms:=by
 have h:(Rdr.prs 3000 (Rdr.tk 0 textB)).isSome=true:=by decide +kernel
 obtain ⟨l,hl⟩:=Option.isSome_iff_exists.1 h
 unfold forms allB
 rw [hl]
 rfl
theorem forms_len:forms.length=28:=by decide +kernel
theorem forms_ok:∀ x∈forms,x.Ok 10000∧x.ob.nodes≤3000:=by
 have h:(forms.all fun x=>Rdr.okT x && decide (x.ob.nodes≤3000))=true:=by decide +kernel
 intro x hx
 have:=List.all_eq_true.1 h x hx
 simp only [Bool.and_eq_true,decide_eq_true_eq] at this
 exact ⟨Rdr.okT_ok this.1,this.2⟩
theorem p_definitions:Puk 30 [] (rowA forms):=by
 have h:=p_Read txtB allB_w allB_ok allB_len forms_eq forms_ok (by rw [forms_len];decide)
 generalize forms=l at *
 exact pwalk (an:=[.av (.dt (.row pkg1)),.av (stA textB),.av (.tup [rowA l,seA])]) (ls:=[]) (ps:=[Puk 61 [] (.dt (.row [[(.val (str lispB)),(.row [])]])),Puk 62 [] (stA textB),Puk 60 [(.dt (.row [[(.val (str lispB)),(.row [])]])),(stA [108,105,115,112]),(stA textB)] (.tup [(.dt (.row (List.map (fun t=>encL t.ob) l))),(.agg [(inA 0),(inA 0)])])]) Tryz.func30 (by kernel_rfl) (by kernel_rfl) ⟨p_Initial,p_Text,h,trivial⟩
end Go.Proofs.YthhknjlmjefklaaGreatDoor
namespace Go.Proofs.YthhknjlmjefklaaGreatDoor
open Go.RowKit
abbrev itS (o:Ob) (es:List (List Dt)):AS:=⟨stt 22 [(1,.ptr 0 0),(4,.own 1 es.length)],[obC o,some (.buf 37 7 es)]⟩
abbrev it0 (o:Ob):AS:=⟨stt 22 [(1,.ptr 0 0),(4,.nil)],[obC o]⟩
noncomputable abbrev itB:Code:=subC (bodyOf Tryz.f63) [1,1,0,0,0]
theorem itB1 {o a d:Ob} {es:List (List Dt)} (hc:Puk 102 [obA o] (boA true)) (h0:IxAt (o.pair.map Ob.enc) 0 7 (encL a)) (h1:IxAt (o.pair.map Ob.enc) 1 7 (encL d)) (he:es.length≤10000):Tri EX itB (itS o es) .nxt (itS d (es++[encL a])) :=
 twalk (c:=subC (bodyOf Tryz.f63) [1,1,0,0,0]) (s:=itS o es) (an:=[yT,.av (.pin ((encL a).map .dt)),.av (.un),.av (.pin ((encL d).map .dt))]) (ls:=[]) (ft:=[1,4]) (nb:=2) (e:=.nxt) (s':=itS d (es++[encL a])) (ps:=[Puk 102 [(obA o)] (boA true),IxAt (List.map Ob.enc o.pair) 0 7 (encL a),(es.length)=(es.length),FitB 112 ((es++[[Dt.val (vi a.kind),Dt.val (str a.num),Dt.val (str a.den),Dt.val (str a.sp),Dt.val (str a.sn),Dt.val (str a.text),Dt.row (List.map Ob.enc a.pair)]]).length),SrcOK 7 [encL a],IxAt (List.map Ob.enc o.pair) 1 7 (encL d)]) (by kernel_rfl)
  ⟨hc,h0,rfl,fit_of (by omega) (by simp;omega),src_ob1 a,h1,trivial⟩
theorem itB2 {o:Ob} {es:List (List Dt)} (hc:Puk 102 [obA o] (boA false)):Tri EX itB (itS o es) (.out 0) (itS o es) :=
 twalk (c:=subC (bodyOf Tryz.f63) [1,1,0,0,0]) (s:=itS o es) (an:=[yF]) (ls:=[]) (ft:=[1,4]) (nb:=2) (e:=.out 0) (s':=itS o es) (ps:=[Puk 102 [(obA o)] (boA false)]) (by kernel_rfl)
  ⟨hc,trivial⟩
theorem ix_pair (a d:Tr):IxAt ((Tr.cons a d).ob.pair.map Ob.enc) 0 7 (encL a.ob)∧IxAt ((Tr.cons a d).ob.pair.map Ob.enc) 1 7 (encL d.ob) :=
 ⟨⟨by decide,congrArg some (enc_L a.ob),rfl⟩,⟨by decide,congrArg some (enc_L d.ob),rfl⟩⟩
theorem it_loop:∀ (l:List Tr) (es:List (List Dt)),es.length+l.length≤10000→Lps EX itB (itS (Tr.list l).ob es) (.out 0) (itS nilO (es++encOs l))
 | [],es,_=>by
  rw [show es++encOs []=es from List.append_nil _]
  exact .stop (itB2 ((p_rIsCons nilO (by decide)).b (by decide))) (fun h=>by cases h)
 | a::l,es,h=>by
  rw [List.length_cons] at h
  have ih:=it_loop l (es++[encL a.ob]) (by rw [List.length_append,List.length_singleton];omega)
  rw [List.append_assoc] at ih
  obtain ⟨h0,h1⟩:=ix_pair a (Tr.list l)
  exact .more (itB1 ((p_rIsCons (Tr.cons a (Tr.list l)).ob (by show 2≤_;omega)).b (decide_eq_true ⟨rfl,rfl⟩)) h0 h1 (by omega)) ih
theorem nilO_wf:nilO.Wf:=.mk _ (by decide) (by decide) (by decide) (by decide) (by decide) (by decide) (by decide) (by decide) (fun x hx=>by cases hx)
theorem p_rItems {l:List Tr} (hl:l.length≤10000):Puk 63 [trA (Tr.list l)] (.tup [rowA l,boA true]):=by
 have h:=(it_loop l [] (by rw [List.length_nil];omega)).tri
 have ht:Tri EX (.loop itB) (it0 (Tr.list l).ob) (.out 0) (itS nilO (encOs l)):=Tri.own0 4 37 7 (by show 4 < 22;omega) rfl h
 have hn:=(p_rIsNil nilO_wf).b (yesD rfl)
 show Puk _ [obA (Tr.list l).ob] (.tup [.dt (.row (encOs l)),boA true])
 generalize (Tr.list l).ob=o at *
 generalize encOs l=es at *
 exact pwalk (an:=[yT]) (ls:=[.inv [1,4] 1 (.out 0) (itS nilO es)]) (ps:=[Tri EX (.loop (subC (bodyOf Tryz.f63) [1,1,0,0,0])) (it0 o) (.out 0) (itS nilO es),Puk 16 [(obA nilO)] (boA true),(es.length)=(es.length)]) Tryz.func63 (by kernel_rfl) (by kernel_rfl) ⟨ht,hn,rfl,trivial⟩
theorem items_list:∀ {x:Tr} {l:List Tr},Rdr.items x=some l→x=Tr.list l
 | .num _,_,h=>by cases h
 | .txt _,_,h=>by cases h
 | .sym p n,l,h=>by
  rw [Rdr.items] at h
  split at h
  ·rename_i e
   cases h
   rw [e.1,e.2]
   rfl
  ·cases h
 | .cons a d,l,h=>by
  rw [Rdr.items] at h
  split at h
  ·rename_i l' hd
   cases h
   rw [items_list hd]
   rfl
  ·cases h
theorem p_sym12 (n:List UInt8):Puk 222 [stA n] (trA (.sym lispB n)) :=
 pwalk (an:=[.av (syA lispB n),.av (trA (.sym lispB n))]) (ls:=[]) (ps:=[Puk 29 [(stA n)] (syA lispB n),Puk 59 [(syA lispB n)] (trA (Tr.sym lispB n))]) Tryz.func222 (by kernel_rfl) (by kernel_rfl) ⟨p_lisp n,p_rSym lispB n,trivial⟩
theorem w_call {n:List UInt8} {l:List (List Dt)} {a d o:Ob} (h1:Puk 222 [stA n] (obA a)) (h2:Puk 71 [.dt (.row l)] (obA d)) (h3:Puk 69 [obA a,obA d] (obA o)):Puk 189 [stA n,.dt (.row l)] (obA o) :=
 pwalk (an:=[.av (obA a),.av (obA d),.av (obA o)]) (ls:=[]) (ps:=[Puk 222 [(stA n)] (obA a),Puk 71 [(.dt (.row l))] (obA d),Puk 69 [(obA a),(obA d)] (obA o)]) Tryz.func189 (by kernel_rfl) (by kernel_rfl) ⟨h1,h2,h3,trivial⟩
theorem p_call (n:List UInt8) {l:List Tr} (hl:l.length≤10000):Puk 189 [stA n,rowA l] (trA (Rdr.call n l)) :=
 w_call (p_sym12 n) (p_rList (by omega)) (p_rCons (Tr.sym lispB n).ob (Tr.list l).ob)
theorem p_rest12 (n:List UInt8) {l:List Tr} (hl:l.length≤10000):Puk 223 [stA n,rowA l] (trA (Rdr.call n l)):=by
 have h:=p_call n hl
 show Puk _ [stA n,.dt (.row (encOs l))] (obA (Rdr.call n l).ob)
 have h:Puk _ [stA n,.dt (.row (encOs l))] (obA (Rdr.call n l).ob):=h
 generalize (Rdr.call n l).ob=o at *
 generalize encOs l=es at *
 exact pwalk (an:=[.av (obA o)]) (ls:=[]) (ps:=[Puk 189 [(stA n),(.dt (.row es))] (obA o)]) Tryz.func223 (by kernel_rfl) (by kernel_rfl) ⟨h,trivial⟩
theorem slc_os (x:Tr) (r:List Tr):SlcOK (encOs (x::r)) 7 1 ((encOs (x::r)).length:Int) (encOs r):=by
 refine ⟨by decide,?_,Int.le_refl _,?_,.inr fun y hy=>?_⟩
 ·simp only [encOs,List.map_cons,List.length_cons];omega
 ·rw [Int.toNat_natCast,List.take_length];rfl
 ·obtain ⟨t,_,rfl⟩:=List.mem_map.1 hy
  rfl
theorem ix_os0 (x:Tr) (r:List Tr):IxAt (encOs (x::r)) 0 7 (encL x.ob):=⟨by decide,rfl,rfl⟩
theorem ix_os1 (x y:Tr) (r:List Tr):IxAt (encOs (x::y::r)) 1 7 (encL y.ob):=⟨by decide,rfl,rfl⟩
end Go.Proofs.YthhknjlmjefklaaGreatDoor
