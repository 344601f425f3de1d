/- Letters, blanks and words of the reference's reader. -/
import Derived.Test.YtdkehabacmlegaaGreatDoorVK
import Derived.Test.YtdkehabacmlegaaGreatDoorVM
import Derived.Test.YtdkehabacmlegaaGreatDoorVG
namespace Go.Proofs.YtdkehabacmlegaaGreatDoor
open Go.Proofs.Tryz
open Go.RowKit
abbrev dK(c:UInt8):AV:=.dt (.val (.int .u8 (c.toNat:Int)))
theorem Wv{c k:UInt8}{n:Int}(h:(k.toNat:Int)=n):decide ((c.toNat:Int)=n)=(c == k):=by
 rw[Bool.eq_iff_iff,decide_eq_true_iff,beq_iff_eq,←h];exact⟨fun e=>UInt8.toNat_inj.1 J,fun e=>by rw[e]⟩
theorem P5{c k:UInt8}{n:Int}(h:(k.toNat:Int)=n){b:Bool}(e:(c == k)=b):decide ((c.toNat:Int)=n)=b:=(Wv h).trans e
theorem YW(s:ByteArray)(i:Nat):s[i]?=s.data.toList[i]?:=by
 rw[Array.getElem?_toList];by_cases h:i < s.size
 ·have h':i < s.data.size:=h;rw[getElem?_pos s i h,Array.getElem?_eq_getElem h'];rfl
 ·have h':¬i < s.data.size:=h;rw[getElem?_neg s i h,Array.getElem?_eq_none J]
theorem jE{s:bi}{i:Nat}{c:UInt8}(h:s[i]?=some c):fE ⟨s.toArray⟩ (i:Int) (.int .u8 (c.toNat:Int)):=⟨c,Int.natCast_nonneg _,by
 rw[YW,Int.toNat_natCast];exact h,rfl⟩
theorem cO(s:bi):Value.int .i64 (s.length:Int)=Value.int .i64 (s.length:Int):=rfl
theorem PY(c:UInt8):j5 169 [dK c] (j6 (o8.blk c)):=by
 unfold o8.blk;cases h1:c == 32 with
 |true=>exact pV [yT] [Bu .eql 5 3 32 ↑c.toNat bT] func169 ⟨A9 (P5 rfl h1),Z⟩
 |false =>
  cases h2:c == 9 with
  |true=>exact pV [yF,yT] [Bu .eql 5 3 32 ↑c.toNat bF,Bu .eql 5 6 9 ↑c.toNat bT] func169 ⟨A9 (P5 rfl h1),A9 (P5 rfl h2),Z⟩
  |false =>
   cases h3:c == 10 with
   |true=>exact pV [yF,yF,yT] [Bu .eql 5 3 32 ↑c.toNat bF,Bu .eql 5 6 9 ↑c.toNat bF,Bu .eql 5 10 10 ↑c.toNat bT] func169 ⟨A9 (P5 rfl h1),A9 (P5 rfl h2),A9 (P5 rfl h3),Z⟩
   |false=>exact pV [yF,yF,yF,.av (j6 (c == 13))] [Bu .eql 5 3 32 ↑c.toNat bF,Bu .eql 5 6 9 ↑c.toNat bF,Bu .eql 5 10 10 ↑c.toNat bF,Bu .eql 5 14 13 ↑c.toNat (Value.bool (c == 13))] func169 ⟨A9 (P5 rfl h1),A9 (P5 rfl h2),A9 (P5 rfl h3),A9 (Wv (k:=13) rfl),Z⟩
theorem Cc(c:UInt8):j5 173 [dK c] (j6 (o8.cst c)):=by
 unfold o8.cst;cases h0:decide (33≤c.toNat) with
 |false=>exact pV [yF] [Bu .geq 5 3 33 ↑c.toNat bF] func173 ⟨R7 (by rw[←h0];rw[decide_eq_decide];omega),Z⟩
 |true =>
  cases h1:decide (c.toNat≤126) with
  |false=>exact pV [yT,yF] [Bu .geq 5 3 33 ↑c.toNat bT,Bu .leq 5 6 126 ↑c.toNat bF] func173 ⟨R7 (by rw[←h0];rw[decide_eq_decide];omega),eD (by rw[←h1];rw[decide_eq_decide];omega),Z⟩
  |true =>
   cases h2:c == 40 with
   |true=>exact pV [yT,yT,yF] [Bu .geq 5 3 33 ↑c.toNat bT,Bu .leq 5 6 126 ↑c.toNat bT,Bu .neq 5 10 40 ↑c.toNat bF] func173 ⟨R7 (by rw[←h0];rw[decide_eq_decide];omega),eD (by rw[←h1];rw[decide_eq_decide];omega),E9 (P5 rfl h2),Z⟩
   |false =>
    cases h3:c == 41 with
    |true=>exact pV [yT,yT,yT,yF] [Bu .geq 5 3 33 ↑c.toNat bT,Bu .leq 5 6 126 ↑c.toNat bT,Bu .neq 5 10 40 ↑c.toNat bT,Bu .neq 5 14 41 ↑c.toNat bF] func173 ⟨R7 (by rw[←h0];rw[decide_eq_decide];omega),eD (by rw[←h1];rw[decide_eq_decide];omega),E9 (P5 rfl h2),E9 (P5 rfl h3),Z⟩
    |false =>
     cases h4:c == 39 with
     |true=>exact pV [yT,yT,yT,yT,yF] [Bu .geq 5 3 33 ↑c.toNat bT,Bu .leq 5 6 126 ↑c.toNat bT,Bu .neq 5 10 40 ↑c.toNat bT,Bu .neq 5 14 41 ↑c.toNat bT,Bu .neq 5 18 39 ↑c.toNat bF] func173 ⟨R7 (by rw[←h0];rw[decide_eq_decide];omega),eD (by rw[←h1];rw[decide_eq_decide];omega),E9 (P5 rfl h2),E9 (P5 rfl h3),E9 (P5 rfl h4),Z⟩
     |false =>
      cases h5:c == 34 with
      |true=>exact pV [yT,yT,yT,yT,yT,yF] [Bu .geq 5 3 33 ↑c.toNat bT,Bu .leq 5 6 126 ↑c.toNat bT,Bu .neq 5 10 40 ↑c.toNat bT,Bu .neq 5 14 41 ↑c.toNat bT,Bu .neq 5 18 39 ↑c.toNat bT,Bu .neq 5 22 34 ↑c.toNat bF] func173 ⟨R7 (by rw[←h0];rw[decide_eq_decide];omega),eD (by rw[←h1];rw[decide_eq_decide];omega),E9 (P5 rfl h2),E9 (P5 rfl h3),E9 (P5 rfl h4),E9 (P5 rfl h5),Z⟩
      |false =>
       cases h6:c == 59 with
       |true=>exact pV [yT,yT,yT,yT,yT,yT,yF] [Bu .geq 5 3 33 ↑c.toNat bT,Bu .leq 5 6 126 ↑c.toNat bT,Bu .neq 5 10 40 ↑c.toNat bT,Bu .neq 5 14 41 ↑c.toNat bT,Bu .neq 5 18 39 ↑c.toNat bT,Bu .neq 5 22 34 ↑c.toNat bT,Bu .neq 5 26 59 ↑c.toNat bF] func173 ⟨R7 (by rw[←h0];rw[decide_eq_decide];omega),eD (by rw[←h1];rw[decide_eq_decide];omega),E9 (P5 rfl h2),E9 (P5 rfl h3),E9 (P5 rfl h4),E9 (P5 rfl h5),E9 (P5 rfl h6),Z⟩
       |false =>
        cases h7:c == 124 with
        |true=>exact pV [yT,yT,yT,yT,yT,yT,yT,yF] [Bu .geq 5 3 33 ↑c.toNat bT,Bu .leq 5 6 126 ↑c.toNat bT,Bu .neq 5 10 40 ↑c.toNat bT,Bu .neq 5 14 41 ↑c.toNat bT,Bu .neq 5 18 39 ↑c.toNat bT,Bu .neq 5 22 34 ↑c.toNat bT,Bu .neq 5 26 59 ↑c.toNat bT,Bu .neq 5 30 124 ↑c.toNat bF] func173 ⟨R7 (by rw[←h0];rw[decide_eq_decide];omega),eD (by rw[←h1];rw[decide_eq_decide];omega),E9 (P5 rfl h2),E9 (P5 rfl h3),E9 (P5 rfl h4),E9 (P5 rfl h5),E9 (P5 rfl h6),E9 (P5 rfl h7),Z⟩
        |false =>
         cases h8:c == 58 with
         |true=>exact pV [yT,yT,yT,yT,yT,yT,yT,yT,yF] [Bu .geq 5 3 33 ↑c.toNat bT,Bu .leq 5 6 126 ↑c.toNat bT,Bu .neq 5 10 40 ↑c.toNat bT,Bu .neq 5 14 41 ↑c.toNat bT,Bu .neq 5 18 39 ↑c.toNat bT,Bu .neq 5 22 34 ↑c.toNat bT,Bu .neq 5 26 59 ↑c.toNat bT,Bu .neq 5 30 124 ↑c.toNat bT,Bu .neq 5 34 58 ↑c.toNat bF] func173 ⟨R7 (by rw[←h0];rw[decide_eq_decide];omega),eD (by rw[←h1];rw[decide_eq_decide];omega),E9 (P5 rfl h2),E9 (P5 rfl h3),E9 (P5 rfl h4),E9 (P5 rfl h5),E9 (P5 rfl h6),E9 (P5 rfl h7),E9 (P5 rfl h8),Z⟩
         |false=>exact pV [yT,yT,yT,yT,yT,yT,yT,yT,yT] [Bu .geq 5 3 33 ↑c.toNat bT,Bu .leq 5 6 126 ↑c.toNat bT,Bu .neq 5 10 40 ↑c.toNat bT,Bu .neq 5 14 41 ↑c.toNat bT,Bu .neq 5 18 39 ↑c.toNat bT,Bu .neq 5 22 34 ↑c.toNat bT,Bu .neq 5 26 59 ↑c.toNat bT,Bu .neq 5 30 124 ↑c.toNat bT,Bu .neq 5 34 58 ↑c.toNat bT] func173 ⟨R7 (by rw[←h0];rw[decide_eq_decide];omega),eD (by rw[←h1];rw[decide_eq_decide];omega),E9 (P5 rfl h2),E9 (P5 rfl h3),E9 (P5 rfl h4),E9 (P5 rfl h5),E9 (P5 rfl h6),E9 (P5 rfl h7),E9 (P5 rfl h8),Z⟩
theorem GZ{s:bi}{i:Nat}{a b:UInt8}(_hl:s.length≤6000)(hi:i≤6000)(h:∀c∈s,(c == a)=false):j5 170 [stA s,j3 i,dK a,dK b] (j6 false):=by
 by_cases hlt:i+1 < s.length
 ·obtain⟨c,hc⟩:∃c,s[i]?=some c:=⟨s[i],List.getElem?_eq_getElem J⟩;exact pV [yT,.av (j3 ((i+1:Nat):Int)),.av (j3 s.length),yT,.av (dK c),yF] [Bk .geq 3 9 0 ↑i bT,Bk .add 3 12 1 ↑i (vi (↑(i+1))),(vi ↑s.length)=(vi (↑s.length)),Bt .lss 3 13 15 (↑(i+1)) ↑s.length bT,fE ({ data:=s.toArray:ByteArray }) ↑i (Value.int .u8 ↑c.toNat),Bn .eql 5 (.tmp 21) (.tmp 22) (Value.int .u8 ↑c.toNat) (Value.int .u8 ↑a.toNat) bF] func170 ⟨R7 (decide_eq_true J),I4 J J J,cO _,C9 (decide_eq_true J),jE hc,A9 (P5 rfl (h c (List.mem_of_getElem? hc))),Z⟩
 ·exact pV [yT,.av (j3 ((i+1:Nat):Int)),.av (j3 s.length),yF] [Bk .geq 3 9 0 ↑i bT,Bk .add 3 12 1 ↑i (vi (↑(i+1))),(vi ↑s.length)=(vi (↑s.length)),Bt .lss 3 13 15 (↑(i+1)) ↑s.length bF] func170 ⟨R7 (decide_eq_true J),I4 J J J,cO _,C9 (decide_eq_false J),Z⟩
abbrev mI(s:bi)(i:Int):AS:=⟨stt 18 [(0,stA s),(1,j3 i)],[]⟩
noncomputable abbrev Dr:Code:=M9 (P6 f174) [1,0,0,0]
theorem b0O{s:bi}{i:Nat}{c:UInt8}(hc:s[i]?=some c)(hl:s.length≤6000)(h:o8.cst c=true):y7 EX Dr (mI s i) .F4 (mI s ((i+1:Nat):Int)) :=
 tW [.av (j3 s.length),yT,.av (dK c),yT,.av (j3 ((i+1:Nat):Int))] [] [0,1] 0 [(vi ↑s.length)=(vi (↑s.length)),Bt .lss 3 5 7 ↑i ↑s.length bT,fE ({ data:=s.toArray:ByteArray }) ↑i (Value.int .u8 ↑c.toNat),j5 173 [(.dt (.val (Value.int .u8 ↑c.toNat)))] (j6 true),Bk .add 3 15 1 ↑i (vi (↑(i+1)))]     ⟨cO _,C9 (decide_eq_true (by have:=(List.getElem?_eq_some_iff.1 hc).1;omega)),jE hc,h ▸ Cc c,I4 J J (by have:=(List.getElem?_eq_some_iff.1 hc).1;omega),Z⟩
theorem b0P{s:bi}{i:Nat}(hi:i=s.length):y7 EX Dr (mI s i) (.out 0) (mI s i) :=
 tW [.av (j3 s.length),yF] [] [0,1] 0 [(vi ↑s.length)=(vi (↑s.length)),Bt .lss 3 5 7 ↑i ↑s.length bF]     ⟨cO _,C9 (decide_eq_false J),Z⟩
theorem b0Q{s:bi}{i:Nat}{c:UInt8}(hc:s[i]?=some c)(h:o8.cst c=false):y7 EX Dr (mI s i) (.out 0) (mI s i) :=
 tW [.av (j3 s.length),yT,.av (dK c),yF] [] [0,1] 0 [(vi ↑s.length)=(vi (↑s.length)),Bt .lss 3 5 7 ↑i ↑s.length bT,fE ({ data:=s.toArray:ByteArray }) ↑i (Value.int .u8 ↑c.toNat),j5 173 [(.dt (.val (Value.int .u8 ↑c.toNat)))] (j6 false)]     ⟨cO _,C9 (decide_eq_true (by have:=(List.getElem?_eq_some_iff.1 hc).1;omega)),jE hc,h ▸ Cc c,Z⟩
theorem a3w{s:bi}(hl:s.length≤6000):∀(r:bi) (i:Nat),s.drop i=r→i≤s.length→J7 EX Dr (mI s i) (.out 0) (mI s ((i+(r.takeWhile o8.cst).length:Nat):Int)):=by
 intro r
 induction r with
 |nil =>
  intro i hd hi;have e1:=congrArg List.length hd;rw[List.length_drop,List.length_nil]at e1;exact .stop (b0P J) (fun h=>by cases h)
 |cons c r ih =>
  intro i hd hi;have hc:s[i]?=some c:=by rw[←List.head?_drop,hd];rfl
  have hlt:=(List.getElem?_eq_some_iff.1 hc).1;cases h:o8.cst c with
  |false =>
   rw[List.takeWhile_cons,if_neg (by rw[h];decide)];exact .stop (b0Q hc h) (fun h=>by cases h)
  |true =>
   rw[List.takeWhile_cons,if_pos h,List.length_cons,show i+((r.takeWhile o8.cst).length+1)=i+1+(r.takeWhile o8.cst).length by omega]
   exact .more (b0O hc hl h) (ih (i+1) (by rw[←List.drop_drop,hd];rfl) J)
theorem Rp{s:bi}{i:Nat}(hl:s.length≤6000)(hi:i≤s.length):j5 174 [stA s,j3 i] (j3 ((i+((s.drop i).takeWhile o8.cst).length:Nat):Int)):=by
 have ht:=(a3w hl _ i rfl hi).K3;generalize ((i+((s.drop i).takeWhile o8.cst).length:Nat):Int)=k at *;exact pW [] [.inv [0,1] 0 (.out 0) (mI s k)] [_] func174 ⟨ht,Z⟩
abbrev mJ(s:bi)(i:Int):AS:=⟨stt 69 [(0,stA s),(1,j3 i)],[]⟩
abbrev KF(i:Int):AS:=⟨stt 69 [(4,j3 i),(5,j6 true)],[]⟩
noncomputable abbrev zk:Code:=M9 (P6 f129) [1,0,0,0]
theorem UH{s:bi}{i:Nat}{c:UInt8}(hc:s[i]?=some c)(hl:s.length≤6000)(h:o8.blk c=true):y7 EX zk (mJ s i) .F4 (mJ s ((i+1:Nat):Int)) :=
 tW [.av (j3 s.length),yT,.av (dK c),yT,.av (j3 ((i+1:Nat):Int))] [] [0,1] 0 [(vi ↑s.length)=(vi (↑s.length)),Bt .lss 3 7 9 ↑i ↑s.length bT,fE ({ data:=s.toArray:ByteArray }) ↑i (Value.int .u8 ↑c.toNat),j5 169 [(.dt (.val (Value.int .u8 ↑c.toNat)))] (j6 true),Bk .add 3 17 1 ↑i (vi (↑(i+1)))]     ⟨cO _,C9 (decide_eq_true (by have:=(List.getElem?_eq_some_iff.1 hc).1;omega)),jE hc,h ▸ PY c,I4 J J (by have:=(List.getElem?_eq_some_iff.1 hc).1;omega),Z⟩
theorem b0R{s:bi}{i:Nat}(hi:i=s.length):y7 EX zk (mJ s i) (.out 0) (mJ s i) :=
 tW [.av (j3 s.length),yF] [] [0,1] 0 [(vi ↑s.length)=(vi (↑s.length)),Bt .lss 3 7 9 ↑i ↑s.length bF]     ⟨cO _,C9 (decide_eq_false J),Z⟩
theorem b0S{s:bi}{i:Nat}{c:UInt8}(hc:s[i]?=some c)(hl:s.length≤6000)(h:o8.blk c=false)(h1:(c == 59)=false)(h2:∀c∈s,(c == 35)=false):y7 EX zk (mJ s i) .ret (KF i) :=
 tW [.av (j3 s.length),yT,.av (dK c),yF,.av (dK c),yF,yF] [] [4,5] 0 [(vi ↑s.length)=(vi (↑s.length)),Bt .lss 3 7 9 ↑i ↑s.length bT,fE ({ data:=s.toArray:ByteArray }) ↑i (Value.int .u8 ↑c.toNat),j5 169 [(.dt (.val (Value.int .u8 ↑c.toNat)))] (j6 false),fE ({ data:=s.toArray:ByteArray }) ↑i (Value.int .u8 ↑c.toNat),Bu .eql 5 22 59 ↑c.toNat bF,j5 170 [(stA s),(j3 ↑i),(.dt (.val (Value.int .u8 35))),(.dt (.val (Value.int .u8 124)))] (j6 false)]     ⟨cO _,C9 (decide_eq_true (by have:=(List.getElem?_eq_some_iff.1 hc).1;omega)),jE hc,h ▸ PY c,jE hc,A9 (P5 rfl h1),GZ (a:=35) (b:=124) hl (by have:=(List.getElem?_eq_some_iff.1 hc).1;omega) h2,Z⟩
theorem a3x{s:bi}(hl:s.length≤6000)(h1:∀c∈s,(c == 59)=false)(h2:∀c∈s,(c == 35)=false):∀(r:bi) (i:Nat),s.drop i=r→i≤s.length→J7 EX zk (mJ s i) (.out 0) (mJ s ((i+(r.takeWhile o8.blk).length:Nat):Int))∨J7 EX zk (mJ s i) .ret (KF ((i+(r.takeWhile o8.blk).length:Nat):Int)):=by
 intro r
 induction r with
 |nil =>
  intro i hd hi;have e1:=congrArg List.length hd;rw[List.length_drop,List.length_nil]at e1;exact .inl (.stop (b0R J) (fun h=>by cases h))
 |cons c r ih =>
  intro i hd hi;have hc:s[i]?=some c:=by rw[←List.head?_drop,hd];rfl
  have hlt:=(List.getElem?_eq_some_iff.1 hc).1;cases h:o8.blk c with
  |false =>
   rw[List.takeWhile_cons,if_neg (by rw[h];decide)];exact .inr (.stop (b0S hc hl h (h1 c (List.mem_of_getElem? hc)) h2) (fun h=>by cases h))
  |true =>
   rw[List.takeWhile_cons,if_pos h,List.length_cons,show i+((r.takeWhile o8.blk).length+1)=i+1+(r.takeWhile o8.blk).length by omega]
   rcases ih (i+1) (by rw[←List.drop_drop,hd];rfl) J with k | k
   ·exact .inl (.more (UH hc hl h) k)
   ·exact .inr (.more (UH hc hl h) k)
theorem Rq{s:bi}{i:Nat}(hl:s.length≤6000)(h1:∀c∈s,(c == 59)=false)(h2:∀c∈s,(c == 35)=false)(hi:i≤s.length):j5 129 [stA s,j3 i] (.l7 [j3 ((i+((s.drop i).takeWhile o8.blk).length:Nat):Int),j6 true]):=by
 rcases a3x hl h1 h2 _ i rfl hi with h | h
 ·have ht:=h.K3;generalize ((i+((s.drop i).takeWhile o8.blk).length:Nat):Int)=k at *;exact pW [] [.inv [0,1] 0 (.out 0) (mJ s k)] [_] func129 ⟨ht,Z⟩
 ·have ht:=h.K3;generalize ((i+((s.drop i).takeWhile o8.blk).length:Nat):Int)=k at *;exact pW [] [.inv [0,1] 0 (.ret) (KF k)] [_] func129 ⟨ht,Z⟩
theorem a6h:j5 176 [stA [48]] (.l7 [stA [48],stA [49],j6 true]) :=
 pW (nK 17 []) [.run 2] [] func176 trivial
theorem a6i:j5 176 [stA [49]] (.l7 [stA [49],stA [49],j6 true]) :=
 pW (nK 17 []) [.run 2] [] func176 trivial
theorem a6j:j5 176 [stA [45,49]] (.l7 [stA [45,49],stA [49],j6 true]) :=
 pW (nK 17 []) [.run 2] [] func176 trivial
theorem a6k{w:bi}{c:UInt8}(hc:w[0]?=some c)(h45:(c == 45)=false)(hd:o8.aD c=false)(hl:w.length≤6000):j5 176 [stA w] (.l7 [stA [],stA [],j6 false]):=by
 have hlt:=(List.getElem?_eq_some_iff.1 hc).1;have hix:fE ⟨w.toArray⟩ 0 (.int .u8 (c.toNat:Int)):=jE hc;unfold o8.aD at hd;cases h1:decide (48≤c.toNat) with
 |false=>exact pW [.av (j3 w.length),yT,.av (dK c),yF,.av (j3 w.length),yT,.av (dK c),yF,.no] [.run 1] [(vi ↑w.length)=(vi (↑w.length)),Bk .gtr 3 9 0 ↑w.length bT,_,Bu .eql 5 13 45 ↑c.toNat bF,(vi ↑w.length)=(vi (↑w.length)),Bt .lss 3 17 19 0 ↑w.length bT,_,Bu .geq 5 24 48 ↑c.toNat bF] func176 ⟨cO _,Q0 (decide_eq_true J),hix,A9 (P5 rfl h45),cO _,C9 (decide_eq_true J),hix,R7 (by rw[←h1,decide_eq_decide];omega),Z⟩
 |true =>
  rw[h1,Bool.true_and]at hd;exact pW [.av (j3 w.length),yT,.av (dK c),yF,.av (j3 w.length),yT,.av (dK c),yT,.av (dK c),yF,.no] [.run 1] [(vi ↑w.length)=(vi (↑w.length)),Bk .gtr 3 9 0 ↑w.length bT,_,Bu .eql 5 13 45 ↑c.toNat bF,(vi ↑w.length)=(vi (↑w.length)),Bt .lss 3 17 19 0 ↑w.length bT,_,Bu .geq 5 24 48 ↑c.toNat bT,_,Bu .leq 5 30 57 ↑c.toNat bF] func176 ⟨cO _,Q0 (decide_eq_true J),hix,A9 (P5 rfl h45),cO _,C9 (decide_eq_true J),hix,R7 (by rw[←h1,decide_eq_decide];omega),hix,eD (by rw[←hd,decide_eq_decide];omega),Z⟩
theorem a1k:j5 177 [stA [48]] (stA [48]):=pW (nK 13 []) [.run 2] [] func177 trivial
theorem FI:j5 177 [stA [49]] (stA [49]):=pW (nK 13 []) [.run 2] [] func177 trivial
theorem a1l:j5 177 [stA [45,49]] (stA [45,49]):=pW (nK 10 [.av (stA [49]),.av (stA [45,49])]) [.run 2] [uE ⟨#[45,49]⟩ (1:Int) (2:Int) (str [49]),Bn .add 9 (.const (str [45])) (.tmp 33) (str [45]) (str [49]) (str [45,49])] func177 ⟨⟨O,O,O,by rw[Lib.extract_eq];rfl⟩,Az (a:=[45]) (b:=[49]) O,Z⟩
abbrev qG(t:o8.Tok):AV:=.agg [j3 t.kind,j3 t.pos,stA [],stA t.text,stA t.den]
abbrev aU(t:o8.Tok):List Dt:=[.val (.int .i64 t.kind),.val (.int .i64 (t.pos:Int)),.val (str []),.val (str t.text),.val (str t.den)]
abbrev az:AV:=.agg [j3 0,j3 0]
theorem a3y{k:Int}{i:Nat}{w:bi}(h:w.length≤40):j5 172 [.agg [j3 k,j3 i,stA [],stA w,stA []],j6 false] az :=
 pV [.av (j3 w.length),yF,yF] [(vi ↑w.length)=(vi (↑w.length)),Bk .gtr 3 8 40 ↑w.length bF,Bl .neq 9 22 [] [] bF] func172 ⟨cO _,Q0 (decide_eq_false J),a3f rfl,Z⟩
theorem a6l{s:bi}{i:Nat}(hc:s[i]?=some 40)(hl:s.length≤6000):j5 130 [stA s,j3 i] (.l7 [qG ⟨1,i,[],[]⟩,j3 ((i+1:Nat):Int),az]) :=
 pV [.av (.dt (.val (.int .u8 40))),yT,.av (j3 ((i+1:Nat):Int))] [fE ({ data:=s.toArray:ByteArray }) ↑i (Value.int .u8 40),Bu .eql 5 21 40 40 bT,Bk .add 3 25 1 ↑i (vi (↑(i+1)))] func130 ⟨jE (c:=40) hc,A9 rfl,I4 J J (by have:=(List.getElem?_eq_some_iff.1 hc).1;omega),Z⟩
theorem a6m{s:bi}{i:Nat}(hc:s[i]?=some 41)(hl:s.length≤6000):j5 130 [stA s,j3 i] (.l7 [qG ⟨2,i,[],[]⟩,j3 ((i+1:Nat):Int),az]) :=
 pV [.av (.dt (.val (.int .u8 41))),yF,yT,.av (j3 ((i+1:Nat):Int))] [fE ({ data:=s.toArray:ByteArray }) ↑i (Value.int .u8 41),Bu .eql 5 21 40 41 bF,Bu .eql 5 29 41 41 bT,Bk .add 3 33 1 ↑i (vi (↑(i+1)))] func130 ⟨jE (c:=41) hc,A9 rfl,A9 rfl,I4 J J (by have:=(List.getElem?_eq_some_iff.1 hc).1;omega),Z⟩
theorem IP{a b x y:bi}(ha:a.length≤1000)(hb:b.length≤1000)(hx:Lib.itoa (V9 (j4.r9 a) (j4.r9 b))=x)(hy:Lib.itoa (W9 (j4.r9 a) (j4.r9 b))=y):j5 117 [stA a,stA b] (.l7 [stA x,stA y]) :=
 ⟨O3 func117 rfl (by kernel_rfl),fun ok w vs _ hv=>by
  obtain⟨u,us,rfl,h1,h2⟩:=hv;obtain rfl:=RL.dA h2;rw[Rd.Q9 h1];refine (Ei a b w J J).mono ?_;rintro e w' ⟨rfl,h⟩;rw[hx,hy];exact⟨_,rfl,h,_,rfl,_,_,rfl,.val _,_,_,rfl,.val _,rfl⟩⟩
theorem Bw{l:bi}{k:Nat}(hl:l.length≤1000)(hk:(j4.mag (norm l)).length=k):j5 178 [stA l] (j3 (k:Int)) :=
 ⟨O3 func178 rfl (by kernel_rfl),fun ok w vs _ hv=>by
  obtain rfl:=RL.dA hv;refine (Eg l w J).mono ?_;rintro e w' ⟨rfl,h⟩;rw[hk];exact⟨_,rfl,h,.val _⟩⟩
theorem kC{c k:UInt8}(h:(c == k)=false):decide ((c.toNat:Int)=(k.toNat:Int))=false:=P5 rfl h
theorem Rs{c:UInt8}(h:o8.cst c=true):(c == 40)=false∧(c == 41)=false∧(c == 39)=false∧(c == 34)=false∧(c == 124)=false:=by
 unfold o8.cst at h;simp only[Bool.and_eq_true,decide_eq_true_eq,Bool.not_eq_true']at h;obtain⟨⟨⟨⟨⟨⟨⟨⟨_,_⟩,h3⟩,h4⟩,h5⟩,h6⟩,_⟩,h8⟩,_⟩:=h;exact⟨h3,h4,h5,h6,h8⟩
theorem TC{s w:bi}{i e:Nat}(hw:(s.drop i).takeWhile o8.cst=w)(he:i+w.length=e)(hl:e≤s.length):uE ⟨s.toArray⟩ (i:Int) (e:Int) (str w):=by
 have hp:(s.drop i).takeWhile o8.cst <+: s.drop i:=List.takeWhile_prefix _;rw[hw]at hp;have e2:w=(s.drop i).take w.length:=(List.prefix_iff_eq_take.1 hp);refine⟨J,J,?_,?_⟩
 ·show (e:Int)≤((s.toArray.size:Nat):Int);simpa using hl
 ·rw[Lib.extract_eq,Int.toNat_natCast,Int.toNat_natCast];congr 3;rw[e2,←he,Nat.add_sub_cancel_left]
theorem a6n{s w:bi}{i e:Nat}{c:UInt8}(hc:s[i]?=some c)(hl:s.length≤6000)(gp:o8.cst c=true)(hw:(s.drop i).takeWhile o8.cst=w)(he:i+w.length=e)(oW:∀c∈s,(c == 58)=false)(hn:j5 176 [stA w] (.l7 [stA [],stA [],j6 false]))(h46:w≠[46])(il:w.length≤40):j5 130 [stA s,j3 i] (.l7 [qG ⟨6,i,w,[]⟩,j3 e,az]):=by
 obtain⟨n1,n2,n3,n4,n5⟩:=Rs gp;have hi:=(List.getElem?_eq_some_iff.1 hc).1;have hwd:=Rp hl (i:=i) J;rw[hw,he]at hwd;have KG:e≤s.length:=by
  have:=o8.rW o8.cst (s.drop i);rw[hw,List.length_drop]at this;omega
 exact pV [.av (dK c),yF,yF,yF,yF,yF,yT,.av (j3 e),.av (stA w),yF,.av (.l7 [stA [],stA [],j6 false]),yF,.av (az)] [fE ({ data:=s.toArray:ByteArray }) ↑i (Value.int .u8 ↑c.toNat),Bu .eql 5 21 40 ↑c.toNat bF,Bu .eql 5 29 41 ↑c.toNat bF,Bu .eql 5 37 39 ↑c.toNat bF,Bu .eql 5 45 34 ↑c.toNat bF,Bu .eql 5 73 124 ↑c.toNat bF,j5 173 [(.dt (.val (Value.int .u8 ↑c.toNat)))] (j6 true),_,uE ({ data:=s.toArray:ByteArray }) ((some ↑i).getD 0) ((some ↑e).getD ↑{ data:=s.toArray:ByteArray }.size) (str w),j5 170 [(stA s),(j3 ↑e),(.dt (.val (Value.int .u8 58))),(.dt (.val (Value.int .u8 58)))] (j6 false),_,Bl .eql 9 131 [46] w bF,j5 172 [(.agg [(j3 6),(j3 ↑i),(stA []),(stA w),(stA [])]),(j6 false)] (.agg [(j3 0),(j3 0)])] func130 ⟨jE hc,A9 (kC n1),A9 (kC n2),A9 (kC n3),A9 (kC n4),A9 (kC n5),gp ▸ Cc c,hwd,TC hw he KG,GZ (a:=58) (b:=58) hl J oW,hn,H5 (decide_eq_false h46),a3y il,Z⟩
theorem Ha{s w:bi}{i e:Nat}{c:UInt8}(hc:s[i]?=some c)(hl:s.length≤6000)(gp:o8.cst c=true)(hw:(s.drop i).takeWhile o8.cst=w)(he:i+w.length=e)(oW:∀c∈s,(c == 58)=false)(hn:j5 176 [stA w] (.l7 [stA w,stA [49],j6 true]))(hp:j5 177 [stA w] (stA w))(hr:j5 117 [stA w,stA [49]] (.l7 [stA w,stA [49]]))(hd:j5 178 [stA w] (j3 1))(hd1:j5 178 [stA [49]] (j3 1))(h46:w≠[46]):j5 130 [stA s,j3 i] (.l7 [qG ⟨5,i,w,[49]⟩,j3 e,az]):=by
 obtain⟨n1,n2,n3,n4,n5⟩:=Rs gp;have hi:=(List.getElem?_eq_some_iff.1 hc).1;have hwd:=Rp hl (i:=i) J;rw[hw,he]at hwd;have KG:e≤s.length:=by
  have:=o8.rW o8.cst (s.drop i);rw[hw,List.length_drop]at this;omega
 exact pV [.av (dK c),yF,yF,yF,yF,yF,yT,.av (j3 e),.av (stA w),yF,.av (.l7 [stA w,stA [49],j6 true]),yF,.av (stA [49]),yF,.av (stA w),.av (stA [49]),.av (.l7 [stA w,stA [49]]),.av (j3 1),yF,.av (j3 1),yF] [fE ({ data:=s.toArray:ByteArray }) ↑i (Value.int .u8 ↑c.toNat),Bu .eql 5 21 40 ↑c.toNat bF,Bu .eql 5 29 41 ↑c.toNat bF,Bu .eql 5 37 39 ↑c.toNat bF,Bu .eql 5 45 34 ↑c.toNat bF,Bu .eql 5 73 124 ↑c.toNat bF,j5 173 [(.dt (.val (Value.int .u8 ↑c.toNat)))] (j6 true),_,uE ({ data:=s.toArray:ByteArray }) ((some ↑i).getD 0) ((some ↑e).getD ↑{ data:=s.toArray:ByteArray }.size) (str w),j5 170 [(stA s),(j3 ↑e),(.dt (.val (Value.int .u8 58))),(.dt (.val (Value.int .u8 58)))] (j6 false),_,Bl .eql 9 131 [46] w bF,_,Bl .eql 9 137 [48] [49] bF,_,_,_,_,Bk .gtr 3 156 100 1 bF,_,Bk .gtr 3 161 100 1 bF] func130 ⟨jE hc,A9 (kC n1),A9 (kC n2),A9 (kC n3),A9 (kC n4),A9 (kC n5),gp ▸ Cc c,hwd,TC hw he KG,GZ (a:=58) (b:=58) hl J oW,hn,H5 (decide_eq_false h46),FI,H5 O,hp,FI,hr,hd,Q0 O,hd1,Q0 O,Z⟩
structure zm (s:bi):Prop where
 len:s.length≤6000
 few:∀c∈s,o8.few c=true
theorem wZ{c:UInt8}(h:o8.few c=true):(c == 59)=false∧(c == 35)=false∧(c == 58)=false:=by
 have ne:∀k:UInt8,o8.few k=false→(c == k)=false:=fun k hk=>by
  rw[beq_eq_false_iff_ne];intro e;rw[e,hk]at h;cases h
 exact⟨ne 59 O,ne 35 O,ne 58 O⟩
theorem a3z{c:UInt8}(h:o8.few c=true)(hb:o8.blk c=false)(il:c≠40)(mF:c≠41):o8.cst c=true:=by
 unfold o8.few at h;rw[hb,beq_eq_false_iff_ne.2 il,beq_eq_false_iff_ne.2 mF]at h;simp only[Bool.false_or,Bool.and_eq_true]at h;exact h.1.1.1
theorem ZO{s:bi}(hs:zm s){i:Nat}{c:UInt8}(hc:s[i]?=some c)(gp:o8.cst c=true)(hok:o8.oP ((s.drop i).takeWhile o8.cst)=true):j5 130 [stA s,j3 i] (.l7 [qG (o8.yo i ((s.drop i).takeWhile o8.cst)),j3 ((i+((s.drop i).takeWhile o8.cst).length:Nat):Int),az]):=by
 have oW:∀c∈s,(c == 58)=false:=fun c hc=>(wZ (hs.few c hc)).2.2
 generalize hw:(s.drop i).takeWhile o8.cst=w at *;unfold o8.oP at hok;unfold o8.yo;cases hn:o8.isNum w with
 |true =>
  rw[if_pos rfl];rw[hn,if_pos rfl]at hok;simp only[Bool.or_eq_true,beq_iff_eq]at hok;have d1:j5 178 [stA [49]] (j3 1):=Bw (k:=1) O (by decide +kernel);rcases hok with (rfl | rfl) | rfl
  ·exact Ha hc hs.len gp hw rfl oW a6h a1k (IP O O (by decide +kernel) (by decide +kernel)) (Bw (k:=1) O (by decide +kernel)) d1 O
  ·exact Ha hc hs.len gp hw rfl oW a6i FI (IP O O (by decide +kernel) (by decide +kernel)) (Bw (k:=1) O (by decide +kernel)) d1 O
  ·exact Ha hc hs.len gp hw rfl oW a6j a1l (IP O O (by decide +kernel) (by decide +kernel)) (Bw (k:=1) O (by decide +kernel)) d1 O
 |false =>
  rw[if_neg O];rw[hn,if_neg O]at hok;simp only[Bool.and_eq_true,decide_eq_true_eq,Bool.not_eq_true',beq_eq_false_iff_ne]at hok;obtain⟨⟨il,hh⟩,h46⟩:=hok;cases w with
  |nil=>cases hh
  |cons d r =>
   simp only[Bool.and_eq_true,Bool.not_eq_true']at hh;exact a6n hc hs.len gp hw rfl oW (a6k (c:=d) rfl hh.1 hh.2 J) h46 il
abbrev Ce(l:List o8.Tok):AV:=.dt (.row (l.map aU))
abbrev Du(s:bi)(es:bv)(i:Int):AS:=⟨stt 53 [(0,stA s),(3,.ptr 0 0),(4,.own 1 es.length),(5,j3 i)],[some (.cells [j3 0,j3 0]),some (.buf 176 5 es)]⟩
abbrev Dv(es:bv):AS:=⟨stt 53 [(2,.own 1 es.length),(3,.ptr 0 0)],[some (.cells [j3 0,j3 0]),some (.buf 176 5 es)]⟩
noncomputable abbrev Dw:Code:=M9 (P6 f109) [1,1,1,1,0,0]
theorem PZ(t:o8.Tok):L6 5 [aU t]:=by
 intro x hx;rw[List.mem_singleton]at hx;subst hx;refine⟨rfl,fun d hd=>?_⟩;simp only[List.mem_cons,List.not_mem_nil,or_false]at hd;rcases hd with rfl | rfl | rfl | rfl | rfl <;> rfl
theorem Js{s:bi}{es:bv}{i n e:Nat}{t:o8.Tok}(h1:j5 129 [stA s,j3 i] (.l7 [j3 n,j6 true]))(hn:n < s.length)(h2:j5 130 [stA s,j3 n] (.l7 [qG t,j3 e,az]))(he:es.length≤10000):y7 EX Dw (Du s es i) .F4 (Du s (es++[aU t]) e) :=
 tW [.av (.l7 [j3 n,j6 true]),.av (j3 s.length),yF,.av (.l7 [qG t,j3 e,az]),.no,.av (.un)] [] [0,3,4,5] 2 [j5 129 [(stA s),(j3 ↑i)] (.l7 [(j3 ↑n),(j6 true)]),(vi ↑s.length)=(vi (↑s.length)),Bt .geq 3 26 28 ↑n ↑s.length bF,j5 130 [(stA s),(j3 ↑n)] (.l7 [(.agg [(j3 t.kind),(j3 ↑t.pos),(stA []),(stA t.text),(stA t.den)]),(j3 ↑e),(.agg [(j3 0),(j3 0)])]),(es.length)=(es.length),P9 64 ((es++[[Dt.val (vi t.kind),Dt.val (vi ↑t.pos),Dt.val (str []),Dt.val (str t.text),Dt.val (str t.den)]]).length),L6 5 [[(.val (vi t.kind)),(.val (vi ↑t.pos)),(.val (str [])),(.val (str t.text)),(.val (str t.den))]]]     ⟨h1,cO _,R7 (decide_eq_false J),h2,rfl,bG J (by simp;omega),PZ t,Z⟩
theorem UI{s:bi}{es:bv}{i n:Nat}(h1:j5 129 [stA s,j3 i] (.l7 [j3 n,j6 true]))(hn:s.length≤n)(he:es.length≤10000):y7 EX Dw (Du s es i) .ret (Dv (es++[aU ⟨0,s.length,[],[]⟩])) :=
 tW [.av (.l7 [j3 n,j6 true]),.av (j3 s.length),yT,.av (j3 s.length),.av (.un)] [] [2,3] 2 [j5 129 [(stA s),(j3 ↑i)] (.l7 [(j3 ↑n),(j6 true)]),(vi ↑s.length)=(vi (↑s.length)),Bt .geq 3 26 28 ↑n ↑s.length bT,(vi ↑s.length)=(vi (↑s.length)),(es.length)=(es.length),P9 64 ((es++[[Dt.val (vi 0),Dt.val (vi ↑s.length),Dt.val (Value.string { data:=#[]:ByteArray }),Dt.val (Value.string { data:=#[]:ByteArray }),Dt.val (Value.string { data:=#[]:ByteArray })]]).length),L6 5 [[(.val (vi 0)),(.val (vi ↑s.length)),(.val (str [])),(.val (str [])),(.val (str []))]]]     ⟨h1,cO _,R7 (decide_eq_true J),cO _,rfl,bG J (by simp;omega),PZ ⟨0,s.length,[],[]⟩,Z⟩
theorem a3A{s:bi}(hs:zm s):∀(N:Nat) (r:bi) (i:Nat) (es:bv),r.length≤N→s.drop i=r→i≤s.length→(∀t∈o8.tk i r,t.kind=5∨t.kind=6→o8.oP t.text=true)→es.length+r.length≤9000→J7 EX Dw (Du s es i) .ret (Dv (es++(o8.tk i r).map aU)):=by
 intro N
 induction N with
 |zero =>
  intro r i es hN hd hi hok hl;obtain rfl:r=[]:=List.eq_nil_of_length_eq_zero J;have e1:=congrArg List.length hd;rw[List.length_drop,List.length_nil]at e1;have h1:=Rq hs.len (fun c hc=>(wZ (hs.few c hc)).1) (fun c hc=>(wZ (hs.few c hc)).2.1) hi;rw[hd]at h1;rw[o8.Rh,show i=s.length by omega]
  rw[show i=s.length by omega]at h1
  exact .stop (UI h1 (Nat.le_refl _) J) (fun h=>by cases h)
 |succ N ih =>
  intro r i es hN hd hi hok hl;have h1:=Rq hs.len (fun c hc=>(wZ (hs.few c hc)).1) (fun c hc=>(wZ (hs.few c hc)).2.1) hi;rw[hd]at h1;rw[o8.PM]at hok ⊢
  have hlen:=o8.rW o8.blk r;have hrl:r.length=s.length - i:=by rw[←hd,List.length_drop]
  generalize hn:(r.takeWhile o8.blk).length=n at *;have hd2:s.drop (i+n)=r.drop n:=by rw[←List.drop_drop,hd]
  have hb0:∀c r2,r.drop n=c::r2→o8.blk c=false:=fun c r2 e=>by
   rw[←hn,o8.drop_tw]at e;have:=List.head?_dropWhile_not o8.blk r;rw[e]at this;simpa using this
  cases hr:r.drop n with
  |nil =>
   have e1:=congrArg List.length hr;rw[List.length_drop,List.length_nil]at e1;have e2:i+n=s.length:=J;rw[o8.Rh,e2];rw[e2]at h1;exact .stop (UI h1 (Nat.le_refl _) J) (fun h=>by cases h)
  |cons c r2 =>
   have hrn:(r.drop n).length=r2.length+1:=by rw[hr,List.length_cons]
   rw[List.length_drop]at hrn;have hcs:s[i+n]?=some c:=by rw[←List.head?_drop,hd2,hr];rfl
   have hlt:=(List.getElem?_eq_some_iff.1 hcs).1;have hfc:=hs.few c (List.mem_of_getElem? hcs);have hnb:=hb0 c r2 hr;have hd3:s.drop (i+n+1)=r2:=by rw[←List.drop_drop,hd2,hr];rfl
   rw[hr]at hok;by_cases il:c=40
   ·subst il;rw[o8.a3j]at hok ⊢
    have:=ih r2 (i+n+1) (es++[aU ⟨1,i+n,[],[]⟩]) J hd3 J (fun t ht=>hok t (List.mem_cons_of_mem _ ht)) (by rw[List.length_append,List.length_singleton];omega);rw[List.append_assoc]at this;exact .more (Js h1 hlt (a6l hcs hs.len) J) this
   by_cases mF:c=41
   ·subst mF;rw[o8.a04]at hok ⊢
    have:=ih r2 (i+n+1) (es++[aU ⟨2,i+n,[],[]⟩]) J hd3 J (fun t ht=>hok t (List.mem_cons_of_mem _ ht)) (by rw[List.length_append,List.length_singleton];omega);rw[List.append_assoc]at this;exact .more (Js h1 hlt (a6m hcs hs.len) J) this
   have gp:=a3z hfc hnb il mF;rw[o8.a3l gp]at hok ⊢
   have hw:(s.drop (i+n)).takeWhile o8.cst=(c::r2).takeWhile o8.cst:=by rw[hd2,hr]
   have hpos:1≤((c::r2).takeWhile o8.cst).length:=by rw[List.takeWhile_cons,if_pos gp,List.length_cons];omega
   have hwl:=o8.rW o8.cst (c::r2);rw[List.length_cons]at hwl;have hk:=hok _ (List.mem_cons_self ..);have b0T:o8.oP ((c::r2).takeWhile o8.cst)=true:=by
    unfold o8.yo at hk;split at hk
    ·exact hk (.inl rfl)
    ·exact hk (.inr rfl)
   have h2:=ZO hs hcs gp (by rw[hw];exact b0T);rw[hw]at h2;have:=ih ((c::r2).drop ((c::r2).takeWhile o8.cst).length) (i+n+((c::r2).takeWhile o8.cst).length) (es++[aU (o8.yo (i+n) ((c::r2).takeWhile o8.cst))]) (by rw[List.length_drop,List.length_cons];omega) (by rw[←List.drop_drop,hd2,hr]) J (fun t ht=>hok t (List.mem_cons_of_mem _ ht)) (by rw[List.length_append,List.length_singleton,List.length_drop,List.length_cons];omega);rw[List.append_assoc]at this;exact .more (Js h1 hlt h2 J) this
theorem a1m{s:bi}(hs:zm s)(hok:∀t∈o8.tk 0 s,t.kind=5∨t.kind=6→o8.oP t.text=true):j5 109 [stA s] (.l7 [Ce (o8.tk 0 s),az]):=by
 have hl:=hs.len;have h:=(a3A hs s.length s 0 [] (Nat.le_refl _) rfl (Nat.zero_le _) hok (by rw[List.length_nil];omega)).K3;have ht:y7 EX (.loop Dw) ⟨stt 53 [(0,stA s),(3,.ptr 0 0),(4,.nil),(5,j3 0)],[some (.cells [j3 0,j3 0])]⟩ .ret (Dv ((o8.tk 0 s).map aU)):=y7.Z4 4 176 5 (by show 4 < 53;omega) rfl h;generalize (o8.tk 0 s).map aU=es at *;exact pW [.av (j3 s.length),yF] [.inv [0,3,4,5] 1 (.ret) (Dv es)] [(vi ↑s.length)=(vi (↑s.length)),Bk .gtr 3 12 6000 ↑s.length bF,_,(es.length)=(es.length)] func109 ⟨cO _,Q0 (decide_eq_false J),ht,rfl,Z⟩
end Go.Proofs.YtdkehabacmlegaaGreatDoor
namespace Go.Proofs.YtdkehabacmlegaaGreatDoor
open Go.Proofs.Tryz
open Go.RowKit
open Te
theorem a6o(t:Te):oO t=(if t.kind=1 then uI t.np t.nn && decide (t.val=U0) && decide (t.args.length=0)
  else if t.kind=2 then (decide (t.np=[]) && decide (t.nn=[])) && t.val.jZ && decide (t.args.length=0)
  else if t.kind=3 then P7 ⟨t.np,t.nn⟩ && decide (t.val=U0) && decide (t.args.length≤8) && oz t.args
  else false):=by obtain⟨k,p,n,o,l⟩:=t;rw[oO]
theorem Rt(t:Te):j5 215 [o7 t] (if t.kind=3 then D9 t.args else .dt (.row [])):=by
 by_cases h:t.kind=3
 ·rw[if_pos h];exact pV [yF] [Bk .neq 3 4 3 t.kind bF] func215 ⟨E9 (by simp[h]),Z⟩
 ·rw[if_neg h];exact pV [yT] [Bk .neq 3 4 3 t.kind bT] func215 ⟨E9 (by simp[h]),Z⟩
abbrev zn(l:List Te)(m n i:Int):AS:=⟨stt 40 [(1,j3 m),(5,j3 n),(6,D9 l),(7,j3 i)],[]⟩
abbrev zo(n:Int):AS:=⟨stt 40 [(5,j3 n)],[]⟩
noncomputable abbrev Dx:Code:=M9 (P6 f183) [1,1,1,1,0,1,0,0]
theorem b0U{l:List Te}{x:Te}{m n k:Int}{i:Nat}(hx:l[i]?=some x)(hl:l.length≤9223372036854775807)(hm:m≤3001)(hn:1≤n)(h0:n < m)(hk0:0≤k)(hk1:k≤3001)(h:j5 183 [o7 x,j3 (m - n)] (j3 k)):y7 EX Dx (zn l m n i) .F4 (zn l m (n+k) ((i+1:Nat):Int)) :=
 tW [.av (j3 l.length),yT,yT,.av (.pin ((p9 x).map .dt)),.av (j3 (m - n)),.av (j3 k),.av (j3 (n+k)),.av (j3 ((i+1:Nat):Int))] [] [1,5,6,7] 0 [(vi ↑l.length)=(vi (↑(List.map Te.enc l).length)),Bt .lss 3 18 20 ↑i ↑l.length bT,Bt .lss 3 23 24 n m bT,z8 (List.map Te.enc l) ↑i 11 (p9 x),Bt .sub 3 34 35 m n (vi (m - n)),j5 183 [(o7 x),(j3 (m - n))] (j3 k),Bt .add 3 29 37 n k (vi (n+k)),Bk .add 3 27 1 ↑i (vi (↑(i+1)))]     ⟨H7 _,C9 (decide_eq_true (by have:=(List.getElem?_eq_some_iff.1 hx).1;omega)),C9 (decide_eq_true h0),L8 hx,bE rfl J J,h,I4 rfl J J,I4 J J (by have:=(List.getElem?_eq_some_iff.1 hx).1;omega),Z⟩
theorem b0V{l:List Te}{m n:Int}{i:Nat}(hi:i=l.length):y7 EX Dx (zn l m n i) (.out 0) (zo n) :=
 tW [.av (j3 l.length),yF] [] [5] 0 [(vi ↑l.length)=(vi (↑(List.map Te.enc l).length)),Bt .lss 3 18 20 ↑i ↑l.length bF]     ⟨H7 _,C9 (decide_eq_false J),Z⟩
theorem b0W{l:List Te}{m n:Int}{i:Nat}(hi:i < l.length)(h0:¬n < m):y7 EX Dx (zn l m n i) (.out 0) (zo n) :=
 tW [.av (j3 l.length),yT,yF] [] [5] 0 [(vi ↑l.length)=(vi (↑(List.map Te.enc l).length)),Bt .lss 3 18 20 ↑i ↑l.length bT,Bt .lss 3 23 24 n m bF]     ⟨H7 _,C9 (decide_eq_true J),C9 (decide_eq_false h0),Z⟩
theorem Qa{l:List Te}{m:Int}(hl:l.length≤9223372036854775807)(hm:m≤3001)(h:∀x∈l,∀m:Int,1≤m→m≤3001→j5 183 [o7 x,j3 m] (j3 (cnt x m))):∀(s:List Te) (i:Nat) (n:Int),l.drop i=s→i≤l.length→1≤n→n≤m→J7 EX Dx (zn l m n i) (.out 0) (zo (iR s m n)):=by
 intro s
 induction s with
 |nil =>
  intro i n hd hi hn hn2;have e1:=congrArg List.length hd;rw[List.length_drop,List.length_nil]at e1;rw[iR];exact .stop (b0V J) (fun h=>by cases h)
 |cons x s ih =>
  intro i n hd hi hn hn2;have hx:l[i]?=some x:=by rw[←List.head?_drop,hd];rfl
  have hlt:=(List.getElem?_eq_some_iff.1 hx).1;have hd2:l.drop (i+1)=s:=by rw[←List.drop_drop,hd];rfl
  rw[iR];by_cases h0:n < m
  ·rw[if_pos h0];have hr:=FT x (m - n) J J;exact .more (b0U hx hl hm hn h0 J J (h x (List.mem_of_getElem? hx) (m - n) J J)) (ih (i+1) _ hd2 J J J)
  ·rw[if_neg h0];exact .stop (b0W hlt h0) (fun h=>by cases h)
theorem a6p(t:Te)(m:Int):cnt t m=if t.kind=2 then min m (R9 t.val) else iR (if t.kind=3 then t.args else []) m 1:=by
 obtain⟨k,p,n,o,l⟩:=t;rw[cnt];split
 ·rfl
 ·split
  ·rfl
  ·rw[iR]
theorem a8k:∀(N:Nat) (t:Te) (m:Int),t.size≤N→t.Bd→1≤m→m≤3001→j5 183 [o7 t,j3 m] (j3 (cnt t m)):=by
 intro N
 induction N with
 |zero=>intro t m h;have:=t.size_pos;omega
 |succ N ih =>
  intro t m hN hb h1 h2;obtain⟨hv,hs,hp,hn,hl⟩:=hb.parts;have IQ:∀x∈t.args,∀m:Int,1≤m→m≤3001→j5 183 [o7 x,j3 m] (j3 (cnt x m)):=fun x hx m h1 h2=>ih x m (by have:=Te.vR hx;omega) (hb.kids hx) h1 h2
  have hP:=EG t.val;rw[a6p];by_cases k2:t.kind=2
  ·rw[if_pos k2];exact pV [yT,.av (j3 (R9 t.val)),.av (j3 (min m (R9 t.val)))] [Bk .eql 3 9 2 t.kind bT,j5 112 [(l9 t.val)] (j3 (R9 t.val)),(vi (min m (R9 t.val)))=(vi (if R9 t.val < m then R9 t.val else m))] func183 ⟨A9 (U4 k2),Nl hv,by rw[show min m (R9 t.val)=if R9 t.val < m then R9 t.val else m by split <;> omega],Z⟩
  rw[if_neg k2];have ha:=Rt t;by_cases k3:t.kind=3
  ·rw[if_pos k3]at ha ⊢
   have ht:=(Qa hl h2 IQ t.args 0 1 rfl (Nat.zero_le _) J h1).K3;generalize iR t.args m 1=r at *;exact pW [yF,.av (D9 t.args)] [.inv [1,5,6,7] 0 (.out 0) (zo r)] [Bk .eql 3 9 2 t.kind bF,_,_] func183 ⟨A9 (K9 k2),ha,ht,Z⟩
  ·rw[if_neg k3]at ha ⊢
   have ht:=(Qa (l:=[]) O h2 (fun x hx=>by cases hx) [] 0 1 rfl (Nat.zero_le _) J h1).K3;generalize iR [] m 1=r at *;exact pW [yF,.av (.dt (.row []))] [.inv [1,5,6,7] 0 (.out 0) (zo r)] [Bk .eql 3 9 2 t.kind bF,_,_] func183 ⟨A9 (K9 k2),ha,ht,Z⟩
theorem a1n{t:Te}(hb:t.Bd):j5 142 [o7 t] (j3 ((min t.eU 3001:Nat):Int)):=by
 have h:=a8k _ t 3001 (Nat.le_refl _) hb J J;rw[FT t 3001 J J,show min (3001:Int) (t.eU:Int)=((min t.eU 3001:Nat):Int) by omega]at h
 generalize ((min t.eU 3001:Nat):Int)=r at *;exact pV [.av (j3 r)] [_] func142 ⟨h,Z⟩
abbrev zq(l:List Te)(m d i:Int):AS:=⟨stt 31 [(1,j3 m),(5,j3 d),(6,D9 l),(7,j3 i)],[]⟩
abbrev zt(d:Int):AS:=⟨stt 31 [(5,j3 d)],[]⟩
noncomputable abbrev Dy:Code:=M9 (P6 f184) [1,1,1,0,1,0,0]
theorem b0X{l:List Te}{x:Te}{m d k j:Int}{i:Nat}(hx:l[i]?=some x)(hl:l.length≤9223372036854775807)(h0:1 < m)(hm:m≤1000)(h:j5 184 [o7 x,j3 (m - 1)] (j3 k))(hj:j=if k > d then k else d):y7 EX Dy (zq l m d i) .F4 (zq l m j ((i+1:Nat):Int)) :=
 tW [.av (j3 l.length),yT,yT,.av (.pin ((p9 x).map .dt)),.av (j3 (m - 1)),.av (j3 k),.av (j3 j),.av (j3 ((i+1:Nat):Int))] [] [1,5,6,7] 0 [(vi ↑l.length)=(vi (↑(List.map Te.enc l).length)),Bt .lss 3 10 12 ↑i ↑l.length bT,Bk .gtr 3 15 1 m bT,z8 (List.map Te.enc l) ↑i 11 (p9 x),Bk .sub 3 25 1 m (vi (m - 1)),j5 184 [(o7 x),(j3 (m - 1))] (j3 k),(vi j)=(vi (if k > d then k else d)),Bk .add 3 18 1 ↑i (vi (↑(i+1)))]     ⟨H7 _,C9 (decide_eq_true (by have:=(List.getElem?_eq_some_iff.1 hx).1;omega)),Q0 (decide_eq_true h0),L8 hx,bE rfl J J,h,by rw[hj],I4 J J (by have:=(List.getElem?_eq_some_iff.1 hx).1;omega),Z⟩
theorem b0Y{l:List Te}{m d:Int}{i:Nat}(hi:i=l.length):y7 EX Dy (zq l m d i) (.out 0) (zt d) :=
 tW [.av (j3 l.length),yF] [] [5] 0 [(vi ↑l.length)=(vi (↑(List.map Te.enc l).length)),Bt .lss 3 10 12 ↑i ↑l.length bF]     ⟨H7 _,C9 (decide_eq_false J),Z⟩
theorem b0Z{l:List Te}{m d:Int}{i:Nat}(hi:i < l.length)(h0:¬1 < m):y7 EX Dy (zq l m d i) (.out 0) (zt d) :=
 tW [.av (j3 l.length),yT,yF] [] [5] 0 [(vi ↑l.length)=(vi (↑(List.map Te.enc l).length)),Bt .lss 3 10 12 ↑i ↑l.length bT,Bk .gtr 3 15 1 m bF]     ⟨H7 _,C9 (decide_eq_true J),Q0 (decide_eq_false h0),Z⟩
theorem Qb{l:List Te}{m:Int}(hl:l.length≤9223372036854775807)(hm:m≤1000)(h:∀x∈l,1 < m→j5 184 [o7 x,j3 (m - 1)] (j3 (oN x (m - 1)))):∀(s:List Te) (i:Nat) (d:Int),l.drop i=s→i≤l.length→J7 EX Dy (zq l m d i) (.out 0) (zt (iT s m d)):=by
 intro s
 induction s with
 |nil =>
  intro i d hd hi;have e1:=congrArg List.length hd;rw[List.length_drop,List.length_nil]at e1;rw[iT];exact .stop (b0Y J) (fun h=>by cases h)
 |cons x s ih =>
  intro i d hd hi;have hx:l[i]?=some x:=by rw[←List.head?_drop,hd];rfl
  have hlt:=(List.getElem?_eq_some_iff.1 hx).1;have hd2:l.drop (i+1)=s:=by rw[←List.drop_drop,hd];rfl
  rw[iT];by_cases h0:1 < m
  ·rw[if_pos h0];exact .more (b0X hx hl h0 hm (h x (List.mem_of_getElem? hx) h0) (by split <;> omega)) (ih (i+1) _ hd2 J)
  ·rw[if_neg h0];exact .stop (b0Z hlt h0) (fun h=>by cases h)
theorem a6q(t:Te)(m:Int):oN t m=iT (if t.kind=3 then t.args else []) m 0+1:=by
 obtain⟨k,p,n,o,l⟩:=t;rw[oN];split
 ·rfl
 ·rw[iT];rfl
theorem a8l:∀(N:Nat) (t:Te) (m:Int),t.size≤N→t.Bd→1≤m→m≤1000→j5 184 [o7 t,j3 m] (j3 (oN t m)):=by
 intro N
 induction N with
 |zero=>intro t m h;have:=t.size_pos;omega
 |succ N ih =>
  intro t m hN hb h1 h2;obtain⟨hv,hs,hp,hn,hl⟩:=hb.parts;have hb1:=FU t m h1;have hdp:=t.a3i;rw[a6q]at hb1 ⊢
  have ha:=Rt t;by_cases k3:t.kind=3
  ·rw[if_pos k3]at ha hb1 ⊢
   have ht:=(Qb hl h2 (fun x hx h0=>ih x (m - 1) (by have:=Te.vR hx;omega) (hb.kids hx) J J) t.args 0 0 rfl (Nat.zero_le _)).K3;generalize iT t.args m 0=r at *;exact pW [.av (D9 t.args),.av (j3 (r+1))] [.inv [1,5,6,7] 0 (.out 0) (zt r)] [_,_,Bk .add 3 29 1 r (vi (r+1))] func184 ⟨ha,ht,I4 rfl J J,Z⟩
  ·rw[if_neg k3]at ha hb1 ⊢
   have ht:=(Qb (l:=[]) O h2 (fun x hx=>by cases hx) [] 0 0 rfl (Nat.zero_le _)).K3;generalize iT [] m 0=r at *;exact pW [.av (.dt (.row [])),.av (j3 (r+1))] [.inv [1,5,6,7] 0 (.out 0) (zt r)] [_,_,Bk .add 3 29 1 r (vi (r+1))] func184 ⟨ha,ht,I4 rfl J J,Z⟩
theorem a1o{t:Te}(hb:t.Bd):j5 143 [o7 t] (j3 ((min t.dep 201:Nat):Int)):=by
 have h:=a8l _ t 201 (Nat.le_refl _) hb J J;rw[FU t 201 J,show min (201:Int) (t.dep:Int)=((min t.dep 201:Nat):Int) by omega]at h
 generalize ((min t.dep 201:Nat):Int)=r at *;exact pV [.av (j3 r)] [_] func143 ⟨h,Z⟩
theorem a8m{o:Ob}(h:o.Wf):j5 51 [l9 o,l9 U0] (j6 (decide (o=U0))):=Rj h U0
theorem Mt(p n:bi)(hp:p.length≤9223372036854775807)(hn:n.length≤9223372036854775807):j5 134 [o9 p n] (j6 (uI p n)):=by
 have hs:=PX p n hp hn;unfold uI;cases h1:P7 ⟨p,n⟩ with
 |false =>
  rw[h1]at hs;exact pV [yF] [_] func134 ⟨hs,Z⟩
 |true =>
  rw[h1]at hs;cases h2:decide (p=o6) && decide (n=R4) with
  |true=>exact pV [yT,.av (o9 o6 R4),yF] [_,j5 36 [(stA [110,105,108])] (o9 o6 R4),Bn .neq 45 (.tmp 6) (.tmp 7) (Value.agg #[str p,str n]) (Value.agg #[str o6,str R4]) bF] func134 ⟨hs,O7 _,wC h2,Z⟩
  |false =>
   cases h3:decide (p=o6) && decide (n=[116]) with
   |true=>exact pV [yT,.av (o9 o6 R4),yT,.av (o9 o6 [116]),yF] [_,j5 36 [(stA [110,105,108])] (o9 o6 R4),Bn .neq 45 (.tmp 6) (.tmp 7) (Value.agg #[str p,str n]) (Value.agg #[str o6,str R4]) bT,j5 36 [(stA [116])] (o9 o6 [116]),Bn .neq 45 (.tmp 11) (.tmp 12) (Value.agg #[str p,str n]) (Value.agg #[str o6,str [116]]) bF] func134 ⟨hs,O7 _,wC h2,O7 _,wC h3,Z⟩
   |false=>exact pV [yT,.av (o9 o6 R4),yT,.av (o9 o6 [116]),yT] [_,j5 36 [(stA [110,105,108])] (o9 o6 R4),Bn .neq 45 (.tmp 6) (.tmp 7) (Value.agg #[str p,str n]) (Value.agg #[str o6,str R4]) bT,j5 36 [(stA [116])] (o9 o6 [116]),Bn .neq 45 (.tmp 11) (.tmp 12) (Value.agg #[str p,str n]) (Value.agg #[str o6,str [116]]) bT] func134 ⟨hs,O7 _,wC h2,O7 _,wC h3,Z⟩
abbrev vk(t:Te)(i:Int):AS:=⟨stt 72 [(1,.ptr 0 0),(4,j3 i)],[some (.cells ((p9 t).map .dt))]⟩
abbrev KH(t:Te)(b:Bool):AS:=⟨stt 72 [(2,j6 b)],[some (.cells ((p9 t).map .dt))]⟩
abbrev KI(t:Te):AS:=⟨stt 72 [],[some (.cells ((p9 t).map .dt))]⟩
noncomputable abbrev zu:Code:=M9 (P6 f144) [1,1,0,1,0,1,1,1,1,1,0,1,0,1,0,0]
theorem UJ{t x:Te}{i:Nat}(hx:t.args[i]?=some x)(hl:t.args.length≤9223372036854775807)(h:j5 144 [o7 x] (j6 true)):y7 EX zu (vk t i) .F4 (vk t ((i+1:Nat):Int)) :=
 tW [.av (j3 t.args.length),yT,.av (.pin ((p9 x).map .dt)),yT,.av (j3 ((i+1:Nat):Int))] [] [1,4] 1 [(vi ↑t.args.length)=(vi (↑(List.map Te.enc t.args).length)),Bt .lss 3 58 61 ↑i ↑t.args.length bT,z8 (List.map Te.enc t.args) ↑i 11 (p9 x),j5 144 [(o7 x)] (j6 true),Bk .add 3 63 1 ↑i (vi (↑(i+1)))]     ⟨H7 _,C9 (decide_eq_true (by have:=(List.getElem?_eq_some_iff.1 hx).1;omega)),L8 hx,h,I4 J J (by have:=(List.getElem?_eq_some_iff.1 hx).1;omega),Z⟩
theorem b03{t:Te}{i:Nat}(hi:i=t.args.length):y7 EX zu (vk t i) (.out 1) (KI t) :=
 tW [.av (j3 t.args.length),yF] [] [] 1 [(vi ↑t.args.length)=(vi (↑(List.map Te.enc t.args).length)),Bt .lss 3 58 61 ↑i ↑t.args.length bF]     ⟨H7 _,C9 (decide_eq_false J),Z⟩
theorem b04{t x:Te}{i:Nat}(hx:t.args[i]?=some x)(h:j5 144 [o7 x] (j6 false)):y7 EX zu (vk t i) .ret (KH t false) :=
 tW [.av (j3 t.args.length),yT,.av (.pin ((p9 x).map .dt)),yF] [] [2] 1 [(vi ↑t.args.length)=(vi (↑(List.map Te.enc t.args).length)),Bt .lss 3 58 61 ↑i ↑t.args.length bT,z8 (List.map Te.enc t.args) ↑i 11 (p9 x),j5 144 [(o7 x)] (j6 false)]     ⟨H7 _,C9 (decide_eq_true (by have:=(List.getElem?_eq_some_iff.1 hx).1;omega)),L8 hx,h,Z⟩
theorem a3B{t:Te}(hl:t.args.length≤9223372036854775807)(h:∀x∈t.args,j5 144 [o7 x] (j6 (oO x))):∀(s:List Te) (i:Nat),t.args.drop i=s→i≤t.args.length→(oz s=true→J7 EX zu (vk t i) (.out 1) (KI t))∧(oz s=false→J7 EX zu (vk t i) .ret (KH t false)):=by
 intro s
 induction s with
 |nil =>
  intro i hd hi;have e1:=congrArg List.length hd;rw[List.length_drop,List.length_nil]at e1;rw[oz];exact⟨fun _=>.stop (b03 J) (fun h=>by cases h),fun h=>by cases h⟩
 |cons x s ih =>
  intro i hd hi;have hx:t.args[i]?=some x:=by rw[←List.head?_drop,hd];rfl
  have hlt:=(List.getElem?_eq_some_iff.1 hx).1;have hd2:t.args.drop (i+1)=s:=by rw[←List.drop_drop,hd];rfl
  obtain⟨k1,k2⟩:=ih (i+1) hd2 J;have hc:=h x (List.mem_of_getElem? hx);rw[oz];cases b:oO x with
  |false =>
   rw[b]at hc;exact⟨fun e=>by simp at e,fun _=>.stop (b04 hx hc) (fun h=>by cases h)⟩
  |true =>
   rw[b]at hc;exact⟨fun e=>.more (UJ hx hl hc) (k1 (by simpa using e)),fun e=>.more (UJ hx hl hc) (k2 (by simpa using e))⟩
theorem ZP:∀(N:Nat) (t:Te),t.size≤N→t.Bd→j5 144 [o7 t] (j6 (oO t)):=by
 intro N
 induction N with
 |zero=>intro t h;have:=t.size_pos;omega
 |succ N ih =>
  intro t hN hb;obtain⟨hv,hs,hp,hn,hl⟩:=hb.parts;rw[a6o];have h2:=a8m hv;by_cases k1:t.kind=1
  ·rw[if_pos k1];have h1:=Mt t.np t.nn hp hn;cases b2:decide (t.val=U0) with
   |false =>
    rw[b2]at h2;rw[Bool.and_false,Bool.false_and];exact pV [yF,yT] [_,Bk .eql 3 10 1 t.kind bT] func144 ⟨h2,A9 (U4 k1),Z⟩
   |true =>
    rw[b2]at h2;cases b1:uI t.np t.nn with
    |false =>
     rw[b1]at h1;exact pV [yT,yT,yF] [_,Bk .eql 3 10 1 t.kind bT,_] func144 ⟨h2,A9 (U4 k1),h1,Z⟩
    |true =>
     rw[b1]at h1;exact pV [yT,yT,yT,.av (j3 t.args.length),.av (j6 (decide (t.args.length=0)))] [_,Bk .eql 3 10 1 t.kind bT,_,(vi ↑t.args.length)=(vi (↑(List.map Te.enc t.args).length)),Bk .eql 3 22 0 ↑t.args.length (Value.bool (decide (t.args.length=0)))] func144 ⟨h2,A9 (U4 k1),h1,H7 _,A9 (by rw[decide_eq_decide];omega),Z⟩
  rw[if_neg k1];by_cases k2:t.kind=2
  ·rw[if_pos k2];have h3:=ZN hv hs;cases b1:decide (t.np=[]) && decide (t.nn=[]) with
   |false=>exact pV [.av (j6 (decide (t.val=U0))),yF,yT,yF] [_,Bk .eql 3 10 1 t.kind bF,Bk .eql 3 10 2 t.kind bT,Bn .eql 45 (.tmp 28) (.tmp 29) (Value.agg #[str t.np,str t.nn]) (Value.agg #[Value.string { data:=#[]:ByteArray },Value.string { data:=#[]:ByteArray }]) bF] func144 ⟨h2,A9 (K9 k1),A9 (U4 k2),ah b1,Z⟩
   |true =>
    cases b2:t.val.jZ with
    |false =>
     rw[b2]at h3;exact pV [.av (j6 (decide (t.val=U0))),yF,yT,yT,yF] [_,Bk .eql 3 10 1 t.kind bF,Bk .eql 3 10 2 t.kind bT,Bn .eql 45 (.tmp 28) (.tmp 29) (Value.agg #[str t.np,str t.nn]) (Value.agg #[Value.string { data:=#[]:ByteArray },Value.string { data:=#[]:ByteArray }]) bT,_] func144 ⟨h2,A9 (K9 k1),A9 (U4 k2),ah b1,h3,Z⟩
    |true =>
     rw[b2]at h3;exact pV [.av (j6 (decide (t.val=U0))),yF,yT,yT,yT,.av (j3 t.args.length),.av (j6 (decide (t.args.length=0)))] [_,Bk .eql 3 10 1 t.kind bF,Bk .eql 3 10 2 t.kind bT,Bn .eql 45 (.tmp 28) (.tmp 29) (Value.agg #[str t.np,str t.nn]) (Value.agg #[Value.string { data:=#[]:ByteArray },Value.string { data:=#[]:ByteArray }]) bT,_,(vi ↑t.args.length)=(vi (↑(List.map Te.enc t.args).length)),Bk .eql 3 39 0 ↑t.args.length (Value.bool (decide (t.args.length=0)))] func144 ⟨h2,A9 (K9 k1),A9 (U4 k2),ah b1,h3,H7 _,A9 (by rw[decide_eq_decide];omega),Z⟩
  rw[if_neg k2];by_cases k3:t.kind=3
  ·rw[if_pos k3];have h1:=PX t.np t.nn hp hn;cases b2:decide (t.val=U0) with
   |false =>
    rw[b2]at h2;rw[Bool.and_false,Bool.false_and,Bool.false_and];exact pV [yF,yF,yF,yT] [_,Bk .eql 3 10 1 t.kind bF,Bk .eql 3 10 2 t.kind bF,Bk .eql 3 10 3 t.kind bT] func144 ⟨h2,A9 (K9 k1),A9 (K9 k2),A9 (U4 k3),Z⟩
   |true =>
    rw[b2]at h2;cases b1:P7 ⟨t.np,t.nn⟩ with
    |false =>
     rw[b1]at h1;exact pV [yT,yF,yF,yT,yF] [_,Bk .eql 3 10 1 t.kind bF,Bk .eql 3 10 2 t.kind bF,Bk .eql 3 10 3 t.kind bT,_] func144 ⟨h2,A9 (K9 k1),A9 (K9 k2),A9 (U4 k3),h1,Z⟩
    |true =>
     rw[b1]at h1;cases b3:decide (t.args.length≤8) with
     |false =>
      have e:=of_decide_eq_false b3;exact pV [yT,yF,yF,yT,yT,.av (j3 t.args.length),yT] [_,Bk .eql 3 10 1 t.kind bF,Bk .eql 3 10 2 t.kind bF,Bk .eql 3 10 3 t.kind bT,_,(vi ↑t.args.length)=(vi (↑(List.map Te.enc t.args).length)),Bk .gtr 3 55 8 ↑t.args.length bT] func144 ⟨h2,A9 (K9 k1),A9 (K9 k2),A9 (U4 k3),h1,H7 _,Q0 (decide_eq_true J),Z⟩
     |true =>
      have e:=of_decide_eq_true b3;obtain⟨l1,l2⟩:=a3B hl (fun x hx=>ih x (by have:=Te.vR hx;omega) (hb.kids hx)) t.args 0 rfl (Nat.zero_le _);cases b4:oz t.args with
      |false =>
       have ht:=(l2 b4).K3;exact pW [yT,yF,yF,yT,yT,.av (j3 t.args.length),yF] [.inv [1,4] 1 (.ret) (KH t false)] [_,Bk .eql 3 10 1 t.kind bF,Bk .eql 3 10 2 t.kind bF,Bk .eql 3 10 3 t.kind bT,_,(vi ↑t.args.length)=(vi (↑(List.map Te.enc t.args).length)),Bk .gtr 3 55 8 ↑t.args.length bF,_] func144 ⟨h2,A9 (K9 k1),A9 (K9 k2),A9 (U4 k3),h1,H7 _,Q0 (decide_eq_false J),ht,Z⟩
      |true =>
       have ht:=(l1 b4).K3;exact pW [yT,yF,yF,yT,yT,.av (j3 t.args.length),yF] [.inv [1,4] 1 (.out 1) (KI t)] [_,Bk .eql 3 10 1 t.kind bF,Bk .eql 3 10 2 t.kind bF,Bk .eql 3 10 3 t.kind bT,_,(vi ↑t.args.length)=(vi (↑(List.map Te.enc t.args).length)),Bk .gtr 3 55 8 ↑t.args.length bF,_] func144 ⟨h2,A9 (K9 k1),A9 (K9 k2),A9 (U4 k3),h1,H7 _,Q0 (decide_eq_false J),ht,Z⟩
  ·rw[if_neg k3];exact pV [.av (j6 (decide (t.val=U0))),yF,yF,yF] [_,Bk .eql 3 10 1 t.kind bF,Bk .eql 3 10 2 t.kind bF,Bk .eql 3 10 3 t.kind bF] func144 ⟨h2,A9 (K9 k1),A9 (K9 k2),A9 (K9 k3),Z⟩
theorem ZQ{t:Te}(hb:t.Bd):j5 115 [o7 t] (j6 t.valid):=by
 have h1:=a1n hb;have h2:=a1o hb;have h3:=ZP _ t (Nat.le_refl _) hb;unfold Te.valid;cases b1:decide (t.eU≤3000) with
 |false =>
  have e:=of_decide_eq_false b1;exact pV [.av (j3 ((min t.eU 3001:Nat):Int)),yF] [_,Bk .leq 3 4 3000 (↑(min t.eU 3001)) bF] func115 ⟨h1,eD (decide_eq_false J),Z⟩
 |true =>
  have e:=of_decide_eq_true b1;cases b2:decide (t.dep≤200) with
  |false =>
   have e2:=of_decide_eq_false b2;exact pV [.av (j3 ((min t.eU 3001:Nat):Int)),yT,.av (j3 ((min t.dep 201:Nat):Int)),yF] [_,Bk .leq 3 4 3000 (↑(min t.eU 3001)) bT,_,Bk .leq 3 8 200 (↑(min t.dep 201)) bF] func115 ⟨h1,eD (decide_eq_true J),h2,eD (decide_eq_false J),Z⟩
  |true =>
   have e2:=of_decide_eq_true b2;exact pV [.av (j3 ((min t.eU 3001:Nat):Int)),yT,.av (j3 ((min t.dep 201:Nat):Int)),yT,.av (j6 (oO t))] [_,Bk .leq 3 4 3000 (↑(min t.eU 3001)) bT,_,Bk .leq 3 8 200 (↑(min t.dep 201)) bT,_] func115 ⟨h1,eD (decide_eq_true J),h2,eD (decide_eq_true J),h3,Z⟩
end Go.Proofs.YtdkehabacmlegaaGreatDoor
namespace Go.Proofs.YtdkehabacmlegaaGreatDoor
open Go.Proofs.Tryz
open Go.RowKit
theorem j5.law{f:FuncId}{args:List AV}(h:j5 f args (j6 true)){ok:Nat→Prop}{W:World}{vs:List Value}(hG:Gx W)(hv:RL (M0 ok) W args vs):Calls prog f vs.toArray W fun e W'=>e=.returned (.bool true)∧Below W.heap.size W W' :=
 (h.2 ok W vs hG hv).mono fun e W' ⟨v,he,hb,hr⟩=>⟨by rw[he,Rd.Q9 hr],hb⟩
abbrev Says(f:FuncId)(args:Array Value)(W:World):Prop:=Calls prog f args W fun e W'=>e=.returned (.bool true)∧Below W.heap.size W W'
end Go.Proofs.YtdkehabacmlegaaGreatDoor
