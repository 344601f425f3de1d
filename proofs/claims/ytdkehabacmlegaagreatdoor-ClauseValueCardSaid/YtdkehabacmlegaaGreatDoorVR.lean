/- The parts of Apply, in both texts, on trees. -/
import Derived.Test.YtdkehabacmlegaaGreatDoorVQ
namespace Go.Proofs.YtdkehabacmlegaaGreatDoor
open Go.Proofs.Tryz
open Go.RowKit
theorem qo(b:Bool):j5 198 [j6 b] (l5 (U2 b)):=by
 cases b with
 |true=>exact pV [.av (l5 (.sym o6 [116]))] [_] func198 ⟨a8Y,Z⟩
 |false=>exact pV [.av (l5 l6)] [_] func198 ⟨jg,Z⟩
theorem qp(b:Bool):j5 156 [j6 b] (l5 (U2 b)):=by
 cases b with
 |true=>exact pV [.av (l5 (.sym o6 [116]))] [_] func156 ⟨a8Z,Z⟩
 |false=>exact pV [.av (l5 l6)] [_] func156 ⟨jh,Z⟩
theorem BA(t:Tr):j5 235 [l5 t] (l5 (.num t.val)):=by
 cases t with
 |num q=>exact pV [] [] func235 trivial
 |txt s=>exact pV [.no,.av (l5 (.num ((0:Int):Rat)))] [j5 197 [(j3 0)] (l5 (Tr.num ↑0))] func235 ⟨wU 0 O O,Z⟩
 |sym p s=>exact pV [.no,.av (l5 (.num ((0:Int):Rat)))] [j5 197 [(j3 0)] (l5 (Tr.num ↑0))] func235 ⟨wU 0 O O,Z⟩
 |cons a d=>exact pV [.no,.av (l5 (.num ((0:Int):Rat)))] [j5 197 [(j3 0)] (l5 (Tr.num ↑0))] func235 ⟨wU 0 O O,Z⟩
theorem a1G(t:Tr):j5 232 [l5 t,j3 0] (l5 t.Cv):=by
 cases t with
 |num q=>exact pV [.no,.av (l5 l6)] [_] func232 ⟨jg,Z⟩
 |txt s=>exact pV [.no,.av (l5 l6)] [_] func232 ⟨jg,Z⟩
 |sym p s=>exact pV [.no,.av (l5 l6)] [_] func232 ⟨jg,Z⟩
 |cons a d=>exact pV [.no,.no,.no,.av (Cx a.ob)] [z8 (List.map Ob.enc (a.cons d).ob.pair) 0 7 (y8 a.ob)] func232 ⟨Bj (l:=[a.ob,d.ob]) (i:=0) rfl,Z⟩
theorem a1H(t:Tr):j5 232 [l5 t,j3 1] (l5 t.Cw):=by
 cases t with
 |num q=>exact pV [.no,.av (l5 l6)] [_] func232 ⟨jg,Z⟩
 |txt s=>exact pV [.no,.av (l5 l6)] [_] func232 ⟨jg,Z⟩
 |sym p s=>exact pV [.no,.av (l5 l6)] [_] func232 ⟨jg,Z⟩
 |cons a d=>exact pV [.no,.no,.no,.av (Cx d.ob)] [z8 (List.map Ob.enc (a.cons d).ob.pair) 1 7 (y8 d.ob)] func232 ⟨Bj (l:=[a.ob,d.ob]) (i:=1) rfl,Z⟩
theorem jo(t:Tr):j5 161 [l5 t] (stA t.tx):=by
 cases t with
 |num q=>exact pV [] [] func161 trivial
 |txt s=>exact pV [] [] func161 trivial
 |sym p s=>exact pV [] [] func161 trivial
 |cons a d=>exact pV [] [] func161 trivial
def yz(x i:Tr):Int:=if x.ae && i.bg then (V5 i.ob.num).1 else 0
theorem Ow{x i:Tr}{n:Int}(h:x.dn i=some n):yz x i=n∧x.ae=true∧i.bg=true∧0≤n∧n < x.tx.length:=by
 unfold Tr.dn at h;split at h
 ·rename_i hc;simp only[Bool.and_eq_true,decide_eq_true_eq]at hc;cases h;unfold yz;rw[if_pos (by rw[hc.1.1.1.1,hc.1.1.1.2];rfl)];exact⟨rfl,hc.1.1.1.1,hc.1.1.1.2,hc.1.2,hc.2⟩
 ·cases h
theorem TL(x i:Tr):(x.dn i).isSome=(x.ae && i.bg && (V5 i.ob.num).2 && decide (0≤(V5 i.ob.num).1) && decide ((V5 i.ob.num).1 < x.tx.length)):=by
 unfold Tr.dn;split
 ·rename_i h;rw[h];rfl
 ·rename_i h;simp only[Bool.not_eq_true]at h;rw[h];rfl
theorem RX(x:Tr):(x.eZ).isSome=(x.bg && (V5 x.ob.num).2 && decide (0≤(V5 x.ob.num).1) && decide ((V5 x.ob.num).1≤255)):=by
 unfold Tr.eZ;split
 ·rename_i h;rw[h];rfl
 ·rename_i h;simp only[Bool.not_eq_true]at h;rw[h];rfl
theorem a81{k:Nat}(x:Tr){i:Tr}(hi:i.Ok k)(hk:k≤100000):j5 196 [l5 x,l5 i] (.l7 [j3 (yz x i),j6 (x.dn i).isSome]):=by
 rw[TL];cases x with
 |num q=>exact pV [] [] func196 trivial
 |sym p s=>exact pV [] [] func196 trivial
 |cons a d=>exact pV [] [] func196 trivial
 |txt s =>
  unfold yz;cases hI:i.bg with
  |false=>exact pV [.no,yF] [j5 228 [(l9 i.ob)] (j6 false)] func196 ⟨(jl i).b ((Tr.bH i).trans hI),Z⟩
  |true =>
   have hs:=Ot (l:=i.ob.num) (Nat.le_trans (hi.AZ hk) O);have ht:(Tr.txt s).tx=s:=rfl;rw[ht];generalize hp:V5 i.ob.num=p at hs ⊢;obtain⟨n,b⟩:=p;cases b with
   |false=>exact pV [.no,yT,.av (.l7 [j3 n,j6 false])] [j5 228 [(l9 i.ob)] (j6 true),_] func196 ⟨(jl i).b ((Tr.bH i).trans hI),hs,Z⟩
   |true =>
    by_cases h0:0≤n
    ·rw[decide_eq_true h0];by_cases h1:n < s.length
     ·rw[decide_eq_true h1];exact pV [.no,yT,.av (.l7 [j3 n,j6 true]),yT,.no,yT] [j5 228 [(l9 i.ob)] (j6 true),_,Bk .geq 3 25 0 n bT,Bt .lss 3 29 32 n (↑{ data:=(Tr.txt s).ob.text.toArray:ByteArray }.data.toList.length) bT] func196 ⟨(jl i).b ((Tr.bH i).trans hI),hs,R7 (decide_eq_true h0),C9 (decide_eq_true h1),Z⟩
     ·rw[decide_eq_false h1];exact pV [.no,yT,.av (.l7 [j3 n,j6 true]),yT,.no,yF] [j5 228 [(l9 i.ob)] (j6 true),_,Bk .geq 3 25 0 n bT,Bt .lss 3 29 32 n (↑{ data:=(Tr.txt s).ob.text.toArray:ByteArray }.data.toList.length) bF] func196 ⟨(jl i).b ((Tr.bH i).trans hI),hs,R7 (decide_eq_true h0),C9 (decide_eq_false h1),Z⟩
    ·rw[decide_eq_false h0];exact pV [.no,yT,.av (.l7 [j3 n,j6 true]),yF] [j5 228 [(l9 i.ob)] (j6 true),_,Bk .geq 3 25 0 n bF] func196 ⟨(jl i).b ((Tr.bH i).trans hI),hs,R7 (decide_eq_false h0),Z⟩
def uN(x i:Tr):Int:=match x.dn i with
 |some n=>n
 |none=>0
theorem a7i(x i:Tr):uN x i=if x.ae && i.bg && (V5 i.ob.num).2 && decide (0≤(V5 i.ob.num).1) && decide ((V5 i.ob.num).1 < x.tx.length) then (V5 i.ob.num).1 else 0:=by
 unfold uN Tr.dn;split <;> rename_i h <;> split at h <;> first | (cases h;rename_i hc;rw[if_pos hc]) | (cases h;done) | (rename_i hc;rw[if_neg hc])
theorem a88{k:Nat}(x:Tr){i:Tr}(hi:i.Ok k)(hk:k≤100000):j5 167 [l5 x,l5 i] (.l7 [j3 (uN x i),j6 (x.dn i).isSome]):=by
 rw[a7i,TL];cases x with
 |num q=>exact pV [] [] func167 trivial
 |sym p s=>exact pV [] [] func167 trivial
 |cons a d=>exact pV [] [] func167 trivial
 |txt s =>
  cases hI:i.bg with
  |false=>exact pV [.no,yF] [j5 157 [(l9 i.ob)] (j6 false)] func167 ⟨(jm i).b ((Tr.bH i).trans hI),Z⟩
  |true =>
   have hs:=Ou (l:=i.ob.num) (Nat.le_trans (hi.AZ hk) O);have ht:(Tr.txt s).tx=s:=rfl;rw[ht];generalize hp:V5 i.ob.num=p at hs ⊢;obtain⟨n,b⟩:=p;cases b with
   |false=>exact pV [.no,yT,.av (.l7 [j3 n,j6 false])] [j5 157 [(l9 i.ob)] (j6 true),_] func167 ⟨(jm i).b ((Tr.bH i).trans hI),hs,Z⟩
   |true =>
    by_cases h0:0≤n
    ·rw[decide_eq_true h0];by_cases h1:n < s.length
     ·rw[decide_eq_true h1];exact pV [.no,yT,.av (.l7 [j3 n,j6 true]),yF,.no,yF] [j5 157 [(l9 i.ob)] (j6 true),_,Bk .lss 3 25 0 n bF,Bt .geq 3 29 32 n (↑{ data:=(Tr.txt s).ob.text.toArray:ByteArray }.data.toList.length) bF] func167 ⟨(jm i).b ((Tr.bH i).trans hI),hs,C9 (decide_eq_false J),R7 (b:=(s.length:Int)) (decide_eq_false J),Z⟩
     ·rw[decide_eq_false h1];exact pV [.no,yT,.av (.l7 [j3 n,j6 true]),yF,.no,yT] [j5 157 [(l9 i.ob)] (j6 true),_,Bk .lss 3 25 0 n bF,Bt .geq 3 29 32 n (↑{ data:=(Tr.txt s).ob.text.toArray:ByteArray }.data.toList.length) bT] func167 ⟨(jm i).b ((Tr.bH i).trans hI),hs,C9 (decide_eq_false J),R7 (b:=(s.length:Int)) (decide_eq_true J),Z⟩
    ·rw[decide_eq_false h0];exact pV [.no,yT,.av (.l7 [j3 n,j6 true]),yT] [j5 157 [(l9 i.ob)] (j6 true),_,Bk .lss 3 25 0 n bT] func167 ⟨(jm i).b ((Tr.bH i).trans hI),hs,C9 (decide_eq_true J),Z⟩
theorem a4r{k:Nat}{x:Tr}(hx:x.Ok k)(hk:k≤100000):j5 237 [l5 x] (.l7 [.dt (.val (.int .u8 (IntKind.u8.wrap (V5 x.ob.num).1))),j6 (x.eZ).isSome]):=by
 rw[RX];have hs:=Ot (l:=x.ob.num) (Nat.le_trans (hx.AZ hk) O);generalize hp:V5 x.ob.num=p at hs ⊢;obtain⟨n,b⟩:=p;cases hI:x.bg with
 |false=>exact pV [.av (.l7 [j3 n,j6 b]),.no,yF] [_,j5 228 [(l9 x.ob)] (j6 false)] func237 ⟨hs,(jl x).b ((Tr.bH x).trans hI),Z⟩
 |true =>
  cases b with
  |false=>exact pV [.av (.l7 [j3 n,j6 false]),.no,yT] [_,j5 228 [(l9 x.ob)] (j6 true)] func237 ⟨hs,(jl x).b ((Tr.bH x).trans hI),Z⟩
  |true =>
   by_cases h0:0≤n
   ·rw[decide_eq_true h0];by_cases h1:n≤255
    ·rw[decide_eq_true h1];exact pV [.av (.l7 [j3 n,j6 true]),.no,yT,yT,yT] [_,j5 228 [(l9 x.ob)] (j6 true),Bk .geq 3 20 0 n bT,Bk .leq 3 24 255 n bT] func237 ⟨hs,(jl x).b ((Tr.bH x).trans hI),R7 (decide_eq_true h0),Ov (decide_eq_true h1),Z⟩
    ·rw[decide_eq_false h1];exact pV [.av (.l7 [j3 n,j6 true]),.no,yT,yT,yF] [_,j5 228 [(l9 x.ob)] (j6 true),Bk .geq 3 20 0 n bT,Bk .leq 3 24 255 n bF] func237 ⟨hs,(jl x).b ((Tr.bH x).trans hI),R7 (decide_eq_true h0),Ov (decide_eq_false h1),Z⟩
   ·rw[decide_eq_false h0];exact pV [.av (.l7 [j3 n,j6 true]),.no,yT,yF] [_,j5 228 [(l9 x.ob)] (j6 true),Bk .geq 3 20 0 n bF] func237 ⟨hs,(jl x).b ((Tr.bH x).trans hI),R7 (decide_eq_false h0),Z⟩
def zC(x:Tr):Int:=if x.bg && (V5 x.ob.num).2 && decide (0≤(V5 x.ob.num).1) && decide ((V5 x.ob.num).1≤255) then IntKind.u8.wrap (V5 x.ob.num).1 else 0
theorem a7j{k:Nat}{x:Tr}(hx:x.Ok k)(hk:k≤100000):j5 162 [l5 x] (.l7 [.dt (.val (.int .u8 (zC x))),j6 (x.eZ).isSome]):=by
 rw[RX];unfold zC;have hs:=Ou (l:=x.ob.num) (Nat.le_trans (hx.AZ hk) O);generalize hp:V5 x.ob.num=p at hs ⊢;obtain⟨n,b⟩:=p;cases hI:x.bg with
 |false=>exact pV [yF] [j5 157 [(l9 x.ob)] (j6 false)] func162 ⟨(jm x).b ((Tr.bH x).trans hI),Z⟩
 |true =>
  cases b with
  |false=>exact pV [yT,.av (.l7 [j3 n,j6 false])] [j5 157 [(l9 x.ob)] (j6 true),_] func162 ⟨(jm x).b ((Tr.bH x).trans hI),hs,Z⟩
  |true =>
   by_cases h0:0≤n
   ·rw[decide_eq_true h0];by_cases h1:n≤255
    ·rw[decide_eq_true h1];exact pV [yT,.av (.l7 [j3 n,j6 true]),yF,yF] [j5 157 [(l9 x.ob)] (j6 true),_,Bk .lss 3 18 0 n bF,Bk .gtr 3 22 255 n bF] func162 ⟨(jm x).b ((Tr.bH x).trans hI),hs,C9 (decide_eq_false J),Q0 (decide_eq_false J),Z⟩
    ·rw[decide_eq_false h1];exact pV [yT,.av (.l7 [j3 n,j6 true]),yF,yT] [j5 157 [(l9 x.ob)] (j6 true),_,Bk .lss 3 18 0 n bF,Bk .gtr 3 22 255 n bT] func162 ⟨(jm x).b ((Tr.bH x).trans hI),hs,C9 (decide_eq_false J),Q0 (decide_eq_true J),Z⟩
   ·rw[decide_eq_false h0];exact pV [yT,.av (.l7 [j3 n,j6 true]),yT] [j5 157 [(l9 x.ob)] (j6 true),_,Bk .lss 3 18 0 n bT] func162 ⟨(jm x).b ((Tr.bH x).trans hI),hs,C9 (decide_eq_true J),Z⟩
theorem ZW{x y:Tr}{k:Nat}(hx:x.Ok k)(hy:y.Ok k):j5 195 [l5 x,l5 y] (l5 (Tr.ap 20 x y l6)):=by
 have lx:x.tx.length≤100000:=hx.RU;have ly:y.tx.length≤100000:=hy.RU;have e:Tr.ap 20 x y l6=if x.ae && y.ae && P7 ⟨y.tx,x.tx⟩ then .sym y.tx x.tx else l6:=rfl
 rw[e];cases hX:x.ae with
 |false=>exact pV [yT,.av (l5 l6)] [Bk .neq 3 12 3 x.ob.kind bT,_] func195 ⟨fK (by rw[dR,hX];rfl),jg,Z⟩
 |true =>
  cases hY:y.ae with
  |false=>exact pV [yF,yT,.av (l5 l6)] [Bk .neq 3 12 3 x.ob.kind bF,Bk .neq 3 16 3 y.ob.kind bT,_] func195 ⟨fK (by rw[dR,hX];rfl),fK (by rw[dR,hY];rfl),jg,Z⟩
  |true =>
   cases hS:P7 ⟨y.tx,x.tx⟩ with
   |false=>exact pV [yF,yF,yF,.av (l5 l6)] [Bk .neq 3 12 3 x.ob.kind bF,Bk .neq 3 16 3 y.ob.kind bF,j5 227 [(o9 y.ob.text x.ob.text)] (j6 false),_] func195 ⟨fK (by rw[dR,hX];rfl),fK (by rw[dR,hY];rfl),(RQ (p:=y.tx) (s:=x.tx) J J).b hS,jg,Z⟩
   |true=>exact pV [yF,yF,yT,.av (l5 (.sym y.tx x.tx))] [Bk .neq 3 12 3 x.ob.kind bF,Bk .neq 3 16 3 y.ob.kind bF,j5 227 [(o9 y.ob.text x.ob.text)] (j6 true),j5 122 [(o9 y.ob.text x.ob.text)] (l5 (Tr.sym y.tx x.tx))] func195 ⟨fK (by rw[dR,hX];rfl),fK (by rw[dR,hY];rfl),(RQ (p:=y.tx) (s:=x.tx) J J).b hS,a4p _ _,Z⟩
structure Arg (x:Tr):Prop where
 ok:x.Ok 120
 tx:x.tx.length≤40000
theorem Arg.rb{x:Tr}(h:Arg x):Rb 120 x.val:=h.ok.val O
theorem Arg.n{x:Tr}(h:Arg x):(Lib.itoa x.val.num).length≤121:=Rb.lV h.rb
theorem Arg.d{x:Tr}(h:Arg x):(Lib.itoa (x.val.den:Int)).length≤121:=Rb.oo h.rb
theorem a9a{x:Tr}(h:Arg x):j5 236 [stA (R6 x.val).num,stA (R6 x.val).den] (.l7 [stA (Lib.itoa (qd x.val.num x.val.den)),stA (Lib.itoa (rm x.val.num x.val.den))]):=by
 have h1:=h.n;have h2:=h.d;have:=a7g (a:=(R6 x.val).num) (b:=(R6 x.val).den) (by show (Lib.itoa x.val.num).length≤_;omega) (by show (Lib.itoa (x.val.den:Int)).length≤_;omega);rw[show j4.r9 (R6 x.val).num=x.val.num from j4.K5 _,show j4.r9 (R6 x.val).den=(x.val.den:Int) from j4.K5 (x.val.den:Int)]at this
 exact this
theorem a9b{x:Tr}(h:Arg x):j5 160 [stA (R6 x.val).num,stA (R6 x.val).den] (.l7 [stA (Lib.itoa (qd x.val.num x.val.den)),stA (Lib.itoa (rm x.val.num x.val.den))]):=by
 have h1:=h.n;have h2:=h.d;have:=a7h (a:=(R6 x.val).num) (b:=(R6 x.val).den) (by show (Lib.itoa x.val.num).length≤_;omega) (by show (Lib.itoa (x.val.den:Int)).length≤_;omega);rw[show j4.r9 (R6 x.val).num=x.val.num from j4.K5 _,show j4.r9 (R6 x.val).den=(x.val.den:Int) from j4.K5 (x.val.den:Int)]at this
 exact this
theorem a1I{q:Int}{k:Nat}(hk:1≤k)(h:q.natAbs < 10 ^ k):(Lib.itoa q).length≤k+1:=gG _ hk h
theorem TM{x:Tr}(h:Arg x):(qd x.val.num x.val.den).natAbs < 10 ^ 121:=by
 have h1:=h.rb.num;have hp:(0:Int) < x.val.den:=Int.natCast_pos.2 x.val.den_pos;unfold qd;rw[if_neg J,if_pos hp];have h2:(x.val.num / (x.val.den:Int)).natAbs≤x.val.num.natAbs:=Int.natAbs_ediv_le_natAbs _ _;exact Nat.lt_of_le_of_lt h2 (Nat.lt_of_lt_of_le h1 (Nat.pow_le_pow_right O O))
theorem RY{x:Tr}(h:Arg x):(Lib.itoa (qd x.val.num x.val.den)).length≤1000:=Nat.le_trans (a1I O (TM h)) O
theorem a4s{x:Tr}(_hx:Arg x):j5 200 [stA [99,97,114],l5 x] (l5 (Tr.ap 3 x l6 l6)) :=
 pV [.no,.av (l5 x.Cv)] [j5 232 [(l9 x.ob),(j3 0)] (l9 x.Cv.ob)] func200 ⟨a1G x,Z⟩
theorem a4t{x:Tr}(_hx:Arg x):j5 200 [stA [99,100,114],l5 x] (l5 (Tr.ap 4 x l6 l6)) :=
 pV [.no,.no,.av (l5 x.Cw)] [j5 232 [(l9 x.ob),(j3 1)] (l9 x.Cw.ob)] func200 ⟨a1H x,Z⟩
theorem a4u{x:Tr}(_hx:Arg x):j5 200 [stA [99,111,110,115,112],l5 x] (l5 (Tr.ap 5 x l6 l6)) :=
 pV [.no,.no,.no,.av (j6 x.bU),.av (l5 (U2 x.bU))] [Bk .eql 3 21 4 x.ob.kind (Value.bool x.bU),j5 198 [(j6 x.bU)] (l5 (U2 x.bU))] func200 ⟨A9 (TI x),qo _,Z⟩
theorem a4v{x:Tr}(_hx:Arg x):j5 200 [stA [115,121,109,98,111,108,112],l5 x] (l5 (Tr.ap 6 x l6 l6)) :=
 pV (nK 4 [.av (j6 x.iZ),.av (l5 (U2 x.iZ))]) [Bk .eql 3 27 2 x.ob.kind (Value.bool x.iZ),j5 198 [(j6 x.iZ)] (l5 (U2 x.iZ))] func200 ⟨A9 (TJ x),qo _,Z⟩
theorem a4w{x:Tr}(_hx:Arg x):j5 200 [stA [115,116,114,105,110,103,112],l5 x] (l5 (Tr.ap 7 x l6 l6)) :=
 pV (nK 5 [.av (j6 x.ae),.av (l5 (U2 x.ae))]) [Bk .eql 3 33 3 x.ob.kind (Value.bool x.ae),j5 198 [(j6 x.ae)] (l5 (U2 x.ae))] func200 ⟨A9 (dR x),qo _,Z⟩
theorem a4x{x:Tr}(_hx:Arg x):j5 200 [stA [114,97,116,105,111,110,97,108,112],l5 x] (l5 (Tr.ap 8 x l6 l6)) :=
 pV (nK 6 [.av (j6 x.ja),.av (l5 (U2 x.ja))]) [Bk .eql 3 39 1 x.ob.kind (Value.bool x.ja),j5 198 [(j6 x.ja)] (l5 (U2 x.ja))] func200 ⟨A9 (TK x),qo _,Z⟩
theorem a4y{x:Tr}(_hx:Arg x):j5 200 [stA [105,110,116,101,103,101,114,112],l5 x] (l5 (Tr.ap 9 x l6 l6)) :=
 pV (nK 7 [.av (j6 x.bg),.av (l5 (U2 x.bg))]) [j5 228 [(l9 x.ob)] (j6 x.bg),j5 198 [(j6 x.bg)] (l5 (U2 x.bg))] func200 ⟨(jl x).b (Tr.bH x),qo _,Z⟩
theorem a1J{x:Tr}(hx:Arg x):j5 200 [stA [117,110,97,114,121,45,45],l5 x] (l5 (Tr.ap 12 x l6 l6)) :=
 pV (nK 8 [.av (l5 (.num (-x.val)))]) [j5 233 [(l9 x.ob)] (l9 ((Tr.num (-x.val)).ob))] func200 ⟨a7d hx.ok O O,Z⟩
theorem a1K{x:Tr}(hx:Arg x):j5 200 [stA [117,110,97,114,121,45,47],l5 x] (l5 (Tr.ap 13 x l6 l6)) :=
 pV (nK 9 [.av (l5 (.num x.val⁻¹))]) [j5 234 [(l9 x.ob)] (l9 ((Tr.num x.val⁻¹).ob))] func200 ⟨a7e hx.ok O O,Z⟩
theorem a1L{x:Tr}(hx:Arg x):j5 200 [stA [110,117,109,101,114,97,116,111,114],l5 x] (l5 (Tr.ap 15 x l6 l6)) :=
 pV (nK 10 [.av (l5 (.num x.val)),.av (l5 (.num (x.val.num:Rat)))]) [j5 235 [(l9 x.ob)] (l5 (Tr.num x.val)),j5 225 [(stA (Tr.num x.val).ob.num),(stA [49])] (l5 (Tr.num ↑x.val.num))] func200 ⟨BA x,Gz (q:=x.val.num) (a:=(Tr.num x.val).ob.num) (by have:=hx.n;show (Lib.itoa x.val.num).length≤_;omega) (j4.K5 x.val.num),Z⟩
theorem a1M{x:Tr}(hx:Arg x):j5 200 [stA [100,101,110,111,109,105,110,97,116,111,114],l5 x] (l5 (Tr.ap 16 x l6 l6)) :=
 pV (nK 11 [.av (l5 (.num x.val)),.av (l5 (.num ((x.val.den:Int):Rat)))]) [j5 235 [(l9 x.ob)] (l5 (Tr.num x.val)),j5 225 [(stA (Tr.num x.val).ob.den),(stA [49])] (l5 (Tr.num ↑↑x.val.den))] func200 ⟨BA x,Gz (q:=(x.val.den:Int)) (a:=(Tr.num x.val).ob.den) (by have:=hx.d;show (Lib.itoa (x.val.den:Int)).length≤_;omega) (j4.K5 (x.val.den:Int)),Z⟩
theorem a1N{x:Tr}(hx:Arg x):j5 200 [stA [102,108,111,111,114],l5 x] (l5 (Tr.ap 17 x l6 l6)) :=
 pV (nK 12 [.av (l5 (.num x.val)),.av (l5 (.num x.val)),.av (.l7 [stA (Lib.itoa (qd x.val.num x.val.den)),stA (Lib.itoa (rm x.val.num x.val.den))]),.av (l5 (.num ((qd x.val.num x.val.den:Int):Rat)))]) [j5 235 [(l9 x.ob)] (l5 (Tr.num x.val)),j5 235 [(l9 x.ob)] (l5 (Tr.num x.val)),j5 236 [(stA (Tr.num x.val).ob.num),(stA (Tr.num x.val).ob.den)] (.l7 [(stA (Lib.itoa (qd x.val.num ↑x.val.den))),(stA (Lib.itoa (rm x.val.num ↑x.val.den)))]),j5 225 [(stA (Lib.itoa (qd x.val.num ↑x.val.den))),(stA [49])] (l9 ((Tr.num ↑(qd x.val.num ↑x.val.den)).ob))] func200 ⟨BA x,BA x,a9a hx,Gz (a:=Lib.itoa (qd x.val.num x.val.den)) (by have:=RY hx;omega) (j4.K5 _),Z⟩
theorem a1O{x:Tr}(_hx:Arg x):j5 200 [stA [115,121,109,98,111,108,45,110,97,109,101],l5 x] (l5 (Tr.ap 18 x l6 l6)) :=
 pV (nK 13 [.av (l5 (.txt x.ob.sn))]) [j5 194 [(stA x.ob.sn)] (l5 (Tr.txt x.ob.sn))] func200 ⟨tC _,Z⟩
theorem a1P{x:Tr}(_hx:Arg x):j5 200 [stA [115,121,109,98,111,108,45,112,97,99,107,97,103,101,45,110,97,109,101],l5 x] (l5 (Tr.ap 19 x l6 l6)) :=
 pV (nK 14 [.av (l5 (.txt x.ob.sp))]) [j5 194 [(stA x.ob.sp)] (l5 (Tr.txt x.ob.sp))] func200 ⟨tC _,Z⟩
theorem a1Q{x:Tr}(hx:Arg x):j5 200 [stA [115,116,114,105,110,103,45,108,101,110,103,116,104],l5 x] (l5 (Tr.ap 22 x l6 l6)) :=
 pV (nK 16 [.av (l5 (.num ((x.tx.length:Int):Rat)))]) [j5 197 [(j3 (x.ob.text.length:Int))] (l5 (Tr.num ↑↑x.tx.length))] func200 ⟨wU (x.tx.length:Int) J (by have:=hx.tx;omega),Z⟩
theorem Qy{x:Tr}(_hx:Arg x):j5 125 [stA [99,111,110,115,112],l5 x] (l5 (Tr.ap 5 x l6 l6)) :=
 pV [.av (l5 (.num x.val)),.no,.no,.no,.av (j6 x.bU),.av (l5 (U2 x.bU))] [j5 155 [(l9 x.ob)] (l5 (Tr.num x.val)),Bk .eql 3 33 4 x.ob.kind (Value.bool x.bU),j5 156 [(j6 x.bU)] (l5 (U2 x.bU))] func125 ⟨au x,A9 (TI x),qp _,Z⟩
theorem Qz{x:Tr}(_hx:Arg x):j5 125 [stA [115,121,109,98,111,108,112],l5 x] (l5 (Tr.ap 6 x l6 l6)) :=
 pV (.av (l5 (.num x.val))::nK 4 [.av (j6 x.iZ),.av (l5 (U2 x.iZ))]) [j5 155 [(l9 x.ob)] (l5 (Tr.num x.val)),Bk .eql 3 39 2 x.ob.kind (Value.bool x.iZ),j5 156 [(j6 x.iZ)] (l5 (U2 x.iZ))] func125 ⟨au x,A9 (TJ x),qp _,Z⟩
theorem QA{x:Tr}(_hx:Arg x):j5 125 [stA [115,116,114,105,110,103,112],l5 x] (l5 (Tr.ap 7 x l6 l6)) :=
 pV (.av (l5 (.num x.val))::nK 5 [.av (j6 x.ae),.av (l5 (U2 x.ae))]) [j5 155 [(l9 x.ob)] (l5 (Tr.num x.val)),Bk .eql 3 45 3 x.ob.kind (Value.bool x.ae),j5 156 [(j6 x.ae)] (l5 (U2 x.ae))] func125 ⟨au x,A9 (dR x),qp _,Z⟩
theorem QB{x:Tr}(_hx:Arg x):j5 125 [stA [114,97,116,105,111,110,97,108,112],l5 x] (l5 (Tr.ap 8 x l6 l6)) :=
 pV (.av (l5 (.num x.val))::nK 6 [.av (j6 x.ja),.av (l5 (U2 x.ja))]) [j5 155 [(l9 x.ob)] (l5 (Tr.num x.val)),Bk .eql 3 51 1 x.ob.kind (Value.bool x.ja),j5 156 [(j6 x.ja)] (l5 (U2 x.ja))] func125 ⟨au x,A9 (TK x),qp _,Z⟩
theorem QC{x:Tr}(_hx:Arg x):j5 125 [stA [105,110,116,101,103,101,114,112],l5 x] (l5 (Tr.ap 9 x l6 l6)) :=
 pV (.av (l5 (.num x.val))::nK 7 [.av (j6 x.bg),.av (l5 (U2 x.bg))]) [j5 155 [(l9 x.ob)] (l5 (Tr.num x.val)),j5 157 [(l9 x.ob)] (j6 x.bg),j5 156 [(j6 x.bg)] (l5 (U2 x.bg))] func125 ⟨au x,(jm x).b (Tr.bH x),qp _,Z⟩
theorem Ox{x:Tr}(hx:Arg x):j5 125 [stA [117,110,97,114,121,45,45],l5 x] (l5 (Tr.ap 12 x l6 l6)) :=
 pV (.av (l5 (.num x.val))::nK 8 [.av (l5 (.num (-x.val)))]) [j5 155 [(l9 x.ob)] (l5 (Tr.num x.val)),j5 158 [(l9 x.ob)] (l9 ((Tr.num (-x.val)).ob))] func125 ⟨au x,a7b hx.ok O O,Z⟩
theorem Oy{x:Tr}(hx:Arg x):j5 125 [stA [117,110,97,114,121,45,47],l5 x] (l5 (Tr.ap 13 x l6 l6)) :=
 pV (.av (l5 (.num x.val))::nK 9 [.av (l5 (.num x.val⁻¹))]) [j5 155 [(l9 x.ob)] (l5 (Tr.num x.val)),j5 159 [(l9 x.ob)] (l9 ((Tr.num x.val⁻¹).ob))] func125 ⟨au x,a7c hx.ok O O,Z⟩
theorem Oz{x:Tr}(hx:Arg x):j5 125 [stA [110,117,109,101,114,97,116,111,114],l5 x] (l5 (Tr.ap 15 x l6 l6)) :=
 pV (.av (l5 (.num x.val))::nK 10 [.av (l5 (.num (x.val.num:Rat)))]) [j5 155 [(l9 x.ob)] (l5 (Tr.num x.val)),j5 74 [(stA (Tr.num x.val).ob.num),(stA [49])] (l5 (Tr.num ↑x.val.num))] func125 ⟨au x,GA (q:=x.val.num) (a:=(Tr.num x.val).ob.num) (by have:=hx.n;show (Lib.itoa x.val.num).length≤_;omega) (j4.K5 x.val.num),Z⟩
theorem OA{x:Tr}(hx:Arg x):j5 125 [stA [100,101,110,111,109,105,110,97,116,111,114],l5 x] (l5 (Tr.ap 16 x l6 l6)) :=
 pV (.av (l5 (.num x.val))::nK 11 [.av (l5 (.num ((x.val.den:Int):Rat)))]) [j5 155 [(l9 x.ob)] (l5 (Tr.num x.val)),j5 74 [(stA (Tr.num x.val).ob.den),(stA [49])] (l5 (Tr.num ↑↑x.val.den))] func125 ⟨au x,GA (q:=(x.val.den:Int)) (a:=(Tr.num x.val).ob.den) (by have:=hx.d;show (Lib.itoa (x.val.den:Int)).length≤_;omega) (j4.K5 (x.val.den:Int)),Z⟩
theorem OB{x:Tr}(hx:Arg x):j5 125 [stA [102,108,111,111,114],l5 x] (l5 (Tr.ap 17 x l6 l6)) :=
 pV (.av (l5 (.num x.val))::nK 12 [.av (.l7 [stA (Lib.itoa (qd x.val.num x.val.den)),stA (Lib.itoa (rm x.val.num x.val.den))]),.av (l5 (.num ((qd x.val.num x.val.den:Int):Rat)))]) [j5 155 [(l9 x.ob)] (l5 (Tr.num x.val)),j5 160 [(stA (Tr.num x.val).ob.num),(stA (Tr.num x.val).ob.den)] (.l7 [(stA (Lib.itoa (qd x.val.num ↑x.val.den))),(stA (Lib.itoa (rm x.val.num ↑x.val.den)))]),j5 74 [(stA (Lib.itoa (qd x.val.num ↑x.val.den))),(stA [49])] (l9 ((Tr.num ↑(qd x.val.num ↑x.val.den)).ob))] func125 ⟨au x,a9b hx,GA (a:=Lib.itoa (qd x.val.num x.val.den)) (by have:=RY hx;omega) (j4.K5 _),Z⟩
theorem OC{x:Tr}(_hx:Arg x):j5 125 [stA [115,121,109,98,111,108,45,110,97,109,101],l5 x] (l5 (Tr.ap 18 x l6 l6)) :=
 pV (.av (l5 (.num x.val))::nK 13 [.av (l5 (.txt x.ob.sn))]) [j5 155 [(l9 x.ob)] (l5 (Tr.num x.val)),j5 77 [(stA x.ob.sn)] (l5 (Tr.txt x.ob.sn))] func125 ⟨au x,tq _,Z⟩
theorem OD{x:Tr}(_hx:Arg x):j5 125 [stA [115,121,109,98,111,108,45,112,97,99,107,97,103,101,45,110,97,109,101],l5 x] (l5 (Tr.ap 19 x l6 l6)) :=
 pV (.av (l5 (.num x.val))::nK 14 [.av (l5 (.txt x.ob.sp))]) [j5 155 [(l9 x.ob)] (l5 (Tr.num x.val)),j5 77 [(stA x.ob.sp)] (l5 (Tr.txt x.ob.sp))] func125 ⟨au x,tq _,Z⟩
theorem OE{x:Tr}(hx:Arg x):j5 125 [stA [115,116,114,105,110,103,45,108,101,110,103,116,104],l5 x] (l5 (Tr.ap 22 x l6 l6)) :=
 pV (.av (l5 (.num x.val))::nK 15 [.av (stA x.tx),.no,.av (l5 (.num ((x.tx.length:Int):Rat)))]) [j5 155 [(l9 x.ob)] (l5 (Tr.num x.val)),j5 161 [(l9 x.ob)] (stA x.tx),j5 56 [(j3 (x.tx.length:Int))] (l5 (Tr.num ↑↑x.tx.length))] func125 ⟨au x,jo x,wV (x.tx.length:Int) J (by have:=hx.tx;omega),Z⟩
theorem Nq{x:Tr}{n:Int}(h:x.eZ=some n):(V5 x.ob.num).1=n∧zC x=IntKind.u8.wrap n∧0≤n∧n≤255:=by
 unfold Tr.eZ at h;split at h
 ·rename_i hc;unfold zC;rw[if_pos hc];simp only[Bool.and_eq_true,decide_eq_true_eq]at hc;cases h;exact⟨rfl,rfl,hc.1.2,hc.2⟩
 ·cases h
theorem UR{n:Int}(h0:0≤n)(h1:n≤255):IntKind.u8.wrap n=((UInt8.ofNat n.toNat).toNat:Int):=by
 have e:(UInt8.ofNat n.toNat).toNat=n.toNat:=by
  rw[UInt8.toNat_ofNat'];omega
 rw[e,show IntKind.u8.wrap n=n from by
  show (n % 256)=n;omega]
 omega
theorem RZ{x:Tr}(h:x.eZ=none):Tr.ap 24 x l6 l6=.txt []:=by
 show (match x.eZ with | some n=>Tr.txt [UInt8.ofNat n.toNat] | none=>Tr.txt [])=_;rw[h]
theorem Sa{x:Tr}{n:Int}(h:x.eZ=some n):Tr.ap 24 x l6 l6=.txt [UInt8.ofNat n.toNat]:=by
 show (match x.eZ with | some n=>Tr.txt [UInt8.ofNat n.toNat] | none=>Tr.txt [])=_;rw[h]
theorem nU(x:Tr):j5 113 [l5 x] (j6 x.bU):=by
 cases x with
 |num q=>exact (sD (Tr.num q).ob (Nat.zero_le _)).b (decide_eq_false fun h=>absurd (show (1:Int)=4 from h.1) O)
 |txt q=>exact (sD (Tr.txt q).ob (Nat.zero_le _)).b (decide_eq_false fun h=>absurd (show (3:Int)=4 from h.1) O)
 |sym p s=>exact (sD (Tr.sym p s).ob (Nat.zero_le _)).b (decide_eq_false fun h=>absurd (show (2:Int)=4 from h.1) O)
 |cons a d=>exact (sD (Tr.cons a d).ob (show (2:Nat)≤_ by decide)).b (decide_eq_true ⟨rfl,rfl⟩)
theorem a1R{x:Tr}(hx:Arg x):j5 200 [stA [98,121,116,101,45,115,116,114,105,110,103],l5 x] (l5 (Tr.ap 24 x l6 l6)):=by
 have hc:=a4r hx.ok O;cases ho:x.eZ with
 |none =>
  rw[RZ ho];rw[ho]at hc;exact pV (nK 15 [.av (.l7 [.dt (.val (.int .u8 (IntKind.u8.wrap (V5 x.ob.num).1))),j6 false]),.av (l5 (.txt []))]) [_,j5 194 [(stA [])] (l5 (Tr.txt []))] func200 ⟨hc,tC [],Z⟩
 |some n =>
  obtain⟨h1,h3,h0,h2⟩:=Nq ho;rw[Sa ho];rw[ho,h1]at hc;exact pV (nK 15 [.av (.l7 [.dt (.val (.int .u8 (IntKind.u8.wrap n))),j6 true]),.av (stA [UInt8.ofNat n.toNat]),.av (l5 (.txt [UInt8.ofNat n.toNat]))]) [_,[[Dt.val (Value.int IntKind.u8 (IntKind.u8.wrap n))]]=[[Dt.val (Value.int IntKind.u8 ((UInt8.ofNat n.toNat).toNat:Int))]],j5 194 [(stA [UInt8.ofNat n.toNat])] (l5 (Tr.txt [UInt8.ofNat n.toNat]))] func200 ⟨hc,by rw[UR h0 h2],tC _,Z⟩
theorem OG{x:Tr}(hx:Arg x):j5 125 [stA [98,121,116,101,45,115,116,114,105,110,103],l5 x] (l5 (Tr.ap 24 x l6 l6)):=by
 have hc:=a7j hx.ok O;cases ho:x.eZ with
 |none =>
  rw[RZ ho];rw[ho]at hc;exact pV (.av (l5 (.num x.val))::nK 16 [.av (.l7 [.dt (.val (.int .u8 (zC x))),j6 false]),.av (l5 (.txt []))]) [j5 155 [(l9 x.ob)] (l5 (Tr.num x.val)),_,j5 77 [(stA [])] (l5 (Tr.txt []))] func125 ⟨au x,hc,tq [],Z⟩
 |some n =>
  obtain⟨h1,h3,h0,h2⟩:=Nq ho;rw[Sa ho];rw[ho,h3]at hc;exact pV (.av (l5 (.num x.val))::nK 16 [.av (.l7 [.dt (.val (.int .u8 (IntKind.u8.wrap n))),j6 true]),.av (stA [UInt8.ofNat n.toNat]),.av (l5 (.txt [UInt8.ofNat n.toNat]))]) [j5 155 [(l9 x.ob)] (l5 (Tr.num x.val)),_,[[Dt.val (Value.int IntKind.u8 (IntKind.u8.wrap n))]]=[[Dt.val (Value.int IntKind.u8 ((UInt8.ofNat n.toNat).toNat:Int))]],j5 77 [(stA [UInt8.ofNat n.toNat])] (l5 (Tr.txt [UInt8.ofNat n.toNat]))] func125 ⟨au x,hc,by rw[UR h0 h2],tq _,Z⟩
theorem QD{x:Tr}(_:Arg x):j5 125 [stA [99,97,114],l5 x] (l5 (Tr.ap 3 x l6 l6)):=by
 cases x with
 |num q=>exact pV [.av (l5 (.num (Tr.val (.num q)))),.no,.av (j6 (Tr.bU (.num q))),.av (l5 l6)] [j5 155 [(l5 (Tr.num q))] (l9 ((Tr.num (Tr.num q).val).ob)),j5 113 [(l5 (Tr.num q))] (j6 false),_] func125 ⟨au _,nU _,jh,Z⟩
 |txt q=>exact pV [.av (l5 (.num (Tr.val (.txt q)))),.no,.av (j6 (Tr.bU (.txt q))),.av (l5 l6)] [j5 155 [(l5 (Tr.txt q))] (l9 ((Tr.num (Tr.txt q).val).ob)),j5 113 [(l5 (Tr.txt q))] (j6 false),_] func125 ⟨au _,nU _,jh,Z⟩
 |sym p s=>exact pV [.av (l5 (.num (Tr.val (.sym p s)))),.no,.av (j6 (Tr.bU (.sym p s))),.av (l5 l6)] [j5 155 [(l5 (Tr.sym p s))] (l9 ((Tr.num (Tr.sym p s).val).ob)),j5 113 [(l5 (Tr.sym p s))] (j6 false),_] func125 ⟨au _,nU _,jh,Z⟩
 |cons a d=>exact pV [.av (l5 (.num (Tr.val (.cons a d)))),.no,.av (j6 (Tr.bU (.cons a d))),.no,.av (Cx a.ob)] [j5 155 [(l5 (a.cons d))] (l9 ((Tr.num (a.cons d).val).ob)),j5 113 [(l5 (a.cons d))] (j6 true),z8 (List.map Ob.enc (a.cons d).ob.pair) 0 7 (y8 a.ob)] func125 ⟨au _,nU _,Bj (l:=[a.ob,d.ob]) (i:=0) rfl,Z⟩
theorem QE{x:Tr}(_:Arg x):j5 125 [stA [99,100,114],l5 x] (l5 (Tr.ap 4 x l6 l6)):=by
 cases x with
 |num q=>exact pV [.av (l5 (.num (Tr.val (.num q)))),.no,.no,.av (j6 (Tr.bU (.num q))),.av (l5 l6)] [j5 155 [(l5 (Tr.num q))] (l9 ((Tr.num (Tr.num q).val).ob)),j5 113 [(l5 (Tr.num q))] (j6 false),_] func125 ⟨au _,nU _,jh,Z⟩
 |txt q=>exact pV [.av (l5 (.num (Tr.val (.txt q)))),.no,.no,.av (j6 (Tr.bU (.txt q))),.av (l5 l6)] [j5 155 [(l5 (Tr.txt q))] (l9 ((Tr.num (Tr.txt q).val).ob)),j5 113 [(l5 (Tr.txt q))] (j6 false),_] func125 ⟨au _,nU _,jh,Z⟩
 |sym p s=>exact pV [.av (l5 (.num (Tr.val (.sym p s)))),.no,.no,.av (j6 (Tr.bU (.sym p s))),.av (l5 l6)] [j5 155 [(l5 (Tr.sym p s))] (l9 ((Tr.num (Tr.sym p s).val).ob)),j5 113 [(l5 (Tr.sym p s))] (j6 false),_] func125 ⟨au _,nU _,jh,Z⟩
 |cons a d=>exact pV [.av (l5 (.num (Tr.val (.cons a d)))),.no,.no,.av (j6 (Tr.bU (.cons a d))),.no,.av (Cx d.ob)] [j5 155 [(l5 (a.cons d))] (l9 ((Tr.num (a.cons d).val).ob)),j5 113 [(l5 (a.cons d))] (j6 true),z8 (List.map Ob.enc (a.cons d).ob.pair) 1 7 (y8 d.ob)] func125 ⟨au _,nU _,Bj (l:=[a.ob,d.ob]) (i:=1) rfl,Z⟩
theorem QF{x y:Tr}(hx:Arg x)(_hy:Arg y):j5 126 [stA [101,113,117,97,108],l5 x,l5 y] (l5 (Tr.ap 1 x y l6)):=pV [.no,.av (j6 (decide (x=y))),.av (l5 (U2 (decide (x=y))))] [j5 51 [(l9 x.ob),(l9 y.ob)] (j6 (decide (x=y))),j5 156 [(j6 (decide (x=y)))] (l9 ((U2 (decide (x=y))).ob))] func126 ⟨a7Q y hx.ok O,qp _,Z⟩
theorem QG{x y:Tr}(_hx:Arg x)(_hy:Arg y):j5 126 [stA [99,111,110,115],l5 x,l5 y] (l5 (Tr.ap 2 x y l6)):=pV [.no,.no,.av (l5 (.cons x y))] [j5 78 [(l9 x.ob),(l9 y.ob)] (l5 (x.cons y))] func126 ⟨AQ x.ob y.ob,Z⟩
theorem OH{x y:Tr}(hx:Arg x)(hy:Arg y):j5 126 [stA [98,105,110,97,114,121,45,43],l5 x,l5 y] (l5 (Tr.ap 10 x y l6)):=pV [.no,.no,.no,.av (l5 (.num (x.val+y.val)))] [j5 163 [(l9 x.ob),(l9 y.ob)] (l9 ((Tr.num (x.val+y.val)).ob))] func126 ⟨a7f hx.ok hy.ok O O,Z⟩
theorem OI{x y:Tr}(hx:Arg x)(hy:Arg y):j5 126 [stA [98,105,110,97,114,121,45,42],l5 x,l5 y] (l5 (Tr.ap 11 x y l6)):=pV (nK 4 [.av (l5 (.num (x.val * y.val)))]) [j5 164 [(l9 x.ob),(l9 y.ob)] (l9 ((Tr.num (x.val * y.val)).ob))] func126 ⟨a4o hx.ok hy.ok O O,Z⟩
theorem OJ{x y:Tr}(hx:Arg x)(hy:Arg y):j5 126 [stA [60],l5 x,l5 y] (l5 (Tr.ap 14 x y l6)):=pV (nK 5 [.av (j6 (decide (x.val < y.val))),.av (l5 (U2 (decide (x.val < y.val))))]) [j5 165 [(l9 x.ob),(l9 y.ob)] (j6 (decide (x.val < y.val))),j5 156 [(j6 (decide (x.val < y.val)))] (l9 ((U2 (decide (x.val < y.val))).ob))] func126 ⟨a0Z hx.ok hy.ok O O,qp _,Z⟩
theorem OL{x y:Tr}(hx:Arg x)(hy:Arg y):j5 126 [stA [115,116,114,105,110,103,45,97,112,112,101,110,100],l5 x,l5 y] (l5 (Tr.ap 21 x y l6)):=pV (nK 7 [.av (stA x.tx),.av (stA y.tx),.av (stA (x.tx++y.tx)),.av (l5 (.txt (x.tx++y.tx)))]) [j5 161 [(l9 x.ob)] (stA x.tx),j5 161 [(l9 y.ob)] (stA y.tx),Bs .add 9 64 66 x.tx y.tx (str (x.tx++y.tx)),j5 77 [(stA (x.tx++y.tx))] (l9 ((Tr.txt (x.tx++y.tx)).ob))] func126 ⟨jo x,jo y,Az (a:=x.tx) (b:=y.tx) (by have:=hx.tx;have:=hy.tx;omega),tq _,Z⟩
theorem OM{x y:Tr}(hx:Arg x)(hy:Arg y):j5 126 [stA [105,110,116,101,114,110],l5 x,l5 y] (l5 (Tr.ap 20 x y l6)):=by
 have lx:x.tx.length≤40000:=hx.tx;have ly:y.tx.length≤40000:=hy.tx;have e:Tr.ap 20 x y l6=if x.ae && y.ae && P7 ⟨y.tx,x.tx⟩ then .sym y.tx x.tx else l6:=rfl
 rw[e];cases hX:x.ae with
 |false=>exact pV (nK 6 [.av (stA y.tx),.av (stA x.tx),yT,.av (l5 l6)]) [j5 161 [(l9 y.ob)] (stA y.tx),j5 161 [(l9 x.ob)] (stA x.tx),Bk .neq 3 46 3 x.ob.kind bT,_] func126 ⟨jo y,jo x,fK (by rw[dR,hX];rfl),jh,Z⟩
 |true =>
  cases hY:y.ae with
  |false=>exact pV (nK 6 [.av (stA y.tx),.av (stA x.tx),yF,yT,.av (l5 l6)]) [j5 161 [(l9 y.ob)] (stA y.tx),j5 161 [(l9 x.ob)] (stA x.tx),Bk .neq 3 46 3 x.ob.kind bF,Bk .neq 3 50 3 y.ob.kind bT,_] func126 ⟨jo y,jo x,fK (by rw[dR,hX];rfl),fK (by rw[dR,hY];rfl),jh,Z⟩
  |true =>
   cases hS:P7 ⟨y.tx,x.tx⟩ with
   |false=>exact pV (nK 6 [.av (stA y.tx),.av (stA x.tx),yF,yF,yF,.av (l5 l6)]) [j5 161 [(l9 y.ob)] (stA y.tx),j5 161 [(l9 x.ob)] (stA x.tx),Bk .neq 3 46 3 x.ob.kind bF,Bk .neq 3 50 3 y.ob.kind bF,j5 166 [(o9 y.tx x.tx)] (j6 false),_] func126 ⟨jo y,jo x,fK (by rw[dR,hX];rfl),fK (by rw[dR,hY];rfl),(RS (p:=y.tx) (s:=x.tx) J J).b hS,jh,Z⟩
   |true=>exact pV (nK 6 [.av (stA y.tx),.av (stA x.tx),yF,yF,yT,.av (l5 (.sym y.tx x.tx))]) [j5 161 [(l9 y.ob)] (stA y.tx),j5 161 [(l9 x.ob)] (stA x.tx),Bk .neq 3 46 3 x.ob.kind bF,Bk .neq 3 50 3 y.ob.kind bF,j5 166 [(o9 y.tx x.tx)] (j6 true),j5 73 [(o9 y.tx x.tx)] (l5 (Tr.sym y.tx x.tx))] func126 ⟨jo y,jo x,fK (by rw[dR,hX];rfl),fK (by rw[dR,hY];rfl),(RS (p:=y.tx) (s:=x.tx) J J).b hS,a4q _ _,Z⟩
theorem Sb{x y:Tr}(h:x.dn y=none):Tr.ap 23 x y l6=l6:=by
 show (match x.dn y with | some n=>Tr.num (((x.tx.getD n.toNat 0).toNat:Int):Rat) | none=>l6)=_;rw[h]
theorem Sc{x y:Tr}{n:Int}(h:x.dn y=some n):Tr.ap 23 x y l6=.num (((x.tx.getD n.toNat 0).toNat:Int):Rat):=by
 show (match x.dn y with | some n=>Tr.num (((x.tx.getD n.toNat 0).toNat:Int):Rat) | none=>l6)=_;rw[h]
theorem a1S{x i:Tr}{n:Int}(h:x.dn i=some n):uN x i=n:=by unfold uN;rw[h]
theorem QH{l:bi}{n:Int}(h0:0≤n)(h1:n < l.length):l[n.toNat]?=some (l.getD n.toNat 0):=by
 have h:n.toNat < l.length:=J;rw[List.getD_eq_getElem?_getD,List.getElem?_eq_getElem h];rfl
theorem QI(b:UInt8):IntKind.i64.wrap (b.toNat:Int)=(b.toNat:Int):=by have:=b.toNat_lt;rw[IntKind.wrap_i64];omega
theorem OO{x y:Tr}(_hx:Arg x)(hy:Arg y):j5 126 [stA [115,116,114,105,110,103,45,98,121,116,101],l5 x,l5 y] (l5 (Tr.ap 23 x y l6)):=by
 have hi:=a88 x hy.ok O;cases ho:x.dn y with
 |none =>
  rw[Sb ho];rw[ho]at hi;exact pV (nK 8 [.av (.l7 [j3 (uN x y),j6 false]),.av (l5 l6)]) [_,_] func126 ⟨hi,jh,Z⟩
 |some n =>
  obtain⟨_,_,_,h0,h1⟩:=Ow ho;rw[Sc ho];rw[ho,a1S ho]at hi;generalize hb:x.tx.getD n.toNat 0=b;have hg:=QH h0 h1;rw[hb]at hg;have:=b.toNat_lt;exact pV (nK 8 [.av (.l7 [j3 n,j6 true]),.av (.dt (.val (.int .u8 b.toNat))),.av (j3 b.toNat),.av (l5 (.num ((b.toNat:Int):Rat)))]) [_,fE ({ data:=x.ob.text.toArray:ByteArray }) n (Value.int .u8 ↑b.toNat),(vi ↑b.toNat)=(vi (IntKind.i64.wrap ↑b.toNat)),j5 56 [(j3 ↑b.toNat)] (l5 (Tr.num ↑↑b.toNat))] func126 ⟨hi,⟨b,h0,by rw[EP];exact hg,rfl⟩,by rw[QI],wV _ J J,Z⟩
end Go.Proofs.YtdkehabacmlegaaGreatDoor
