/- Equality of terms and membership in clauses, both texts. -/
import Derived.Test.YtdkehabacmlegaaGreatDoorVK
namespace Go.Proofs.YtdkehabacmlegaaGreatDoor
open Go.Proofs.Tryz
open Go.RowKit
namespace Te
theorem Wf.val{t:Te}(h:t.Wf):t.val.Wf:=by cases h with | mk _ hv hl hx=>exact hv
theorem Wf.len{t:Te}(h:t.Wf):t.args.length≤9223372036854775807:=by cases h with | mk _ hv hl hx=>exact hl
theorem Wf.kids{t x:Te}(h:t.Wf)(hx:x∈t.args):x.Wf:=by cases h with | mk _ hv hl hh=>exact hh x hx
theorem Nk{x y:Te}{a b:List Te}:Q7 (x::a) (y::b)=(Q7 x y && Q7 a b):=by
 unfold Q7;by_cases h1:x=y <;> by_cases h2:a=b <;> simp[h1,h2]
theorem same_iff{a b:Te}:Q7 a b=(decide (a.kind=b.kind) && (decide (a.np=b.np) && decide (a.nn=b.nn)) && Q7 a.val b.val && Q7 a.args b.args):=by
 obtain⟨k,p,n,o,l⟩:=a;obtain⟨k',p',n',o',l'⟩:=b;unfold Q7;rw[Bool.eq_iff_iff];simp[and_assoc]
end Te
abbrev Ws:AV:=.Z6 63 []
abbrev oQ(a b:List Te)(i:Int):AS:=⟨stt 32 [(1,D9 b),(2,Ws),(15,D9 a),(16,j3 a.length),(17,j3 i)],[]⟩
abbrev Dg(b:Bool):AS:=⟨stt 32 [(6,j6 b)],[]⟩
abbrev Dh:AS:=⟨stt 32 [],[]⟩
noncomputable abbrev zb:Code:=M9 (P6 f106) [1,1,0,1,0,0]
theorem Uz{a b:List Te}{x y:Te}{i:Nat}(hx:a[i]?=some x)(hy:b[i]?=some y)(hl:a.length≤9223372036854775807)(h:j5 63 [o7 x,o7 y] (j6 true)):y7 EX zb (oQ a b i) .F4 (oQ a b ((i+1:Nat):Int)) :=
 tW [yT,.av (.pin ((p9 x).map .dt)),.av (.pin ((p9 y).map .dt)),yT,.av (j3 ((i+1:Nat):Int))] [] [1,2,15,16,17] 0 [Bt .lss 3 17 16 ↑i ↑a.length bT,z8 (List.map Te.enc a) ↑i 11 (p9 x),z8 (List.map Te.enc b) ↑i 11 (p9 y),j5 63 [(o7 x),(o7 y)] (j6 true),Bk .add 3 17 1 ↑i (vi (↑(i+1)))]     ⟨C9 (decide_eq_true (by have:=(List.getElem?_eq_some_iff.1 hx).1;omega)),L8 hx,L8 hy,h,I4 J J (by have:=(List.getElem?_eq_some_iff.1 hx).1;omega),Z⟩
theorem b0n{a b:List Te}{i:Nat}(hi:i=a.length):y7 EX zb (oQ a b i) (.out 0) Dh :=
 tW [yF] [] [] 0 [Bt .lss 3 17 16 ↑i ↑a.length bF]     ⟨C9 (decide_eq_false J),Z⟩
theorem b0o{a b:List Te}{x y:Te}{i:Nat}(hx:a[i]?=some x)(hy:b[i]?=some y)(h:j5 63 [o7 x,o7 y] (j6 false)):y7 EX zb (oQ a b i) .ret (Dg false) :=
 tW [yT,.av (.pin ((p9 x).map .dt)),.av (.pin ((p9 y).map .dt)),yF] [] [6] 0 [Bt .lss 3 17 16 ↑i ↑a.length bT,z8 (List.map Te.enc a) ↑i 11 (p9 x),z8 (List.map Te.enc b) ↑i 11 (p9 y),j5 63 [(o7 x),(o7 y)] (j6 false)]     ⟨C9 (decide_eq_true (by have:=(List.getElem?_eq_some_iff.1 hx).1;omega)),L8 hx,L8 hy,h,Z⟩
theorem a08{a b:List Te}(hl:a.length≤9223372036854775807)(h:∀x∈a,∀y,j5 63 [o7 x,o7 y] (j6 (Q7 x y))):j5 106 [D9 a,D9 b,Ws] (j6 (Q7 a b)):=by
 by_cases hne:a.length=b.length
 ·have loop:∀(s s':List Te) (i:Nat),a.drop i=s→b.drop i=s'→i≤a.length→(Q7 s s'=true→J7 EX zb (oQ a b i) (.out 0) Dh)∧(Q7 s s'=false→J7 EX zb (oQ a b i) .ret (Dg false)):=by
   intro s
   induction s with
   |nil =>
    intro s' i hd hd' hi;have e1:=congrArg List.length hd;rw[List.length_drop,List.length_nil]at e1;have e2:=congrArg List.length hd';rw[List.length_drop]at e2;obtain rfl:s'=[]:=List.eq_nil_of_length_eq_zero J;exact⟨fun _=>.stop (b0n J) (fun h=>by cases h),fun h=>by simp at h⟩
   |cons x s ih =>
    intro s' i hd hd' hi;have hx:a[i]?=some x:=by rw[←List.head?_drop,hd];rfl
    have hlt:=(List.getElem?_eq_some_iff.1 hx).1;cases s' with
    |nil =>
     have e2:=congrArg List.length hd';rw[List.length_drop,List.length_nil]at e2;omega
    |cons y s' =>
     have hy:b[i]?=some y:=by rw[←List.head?_drop,hd'];rfl
     have hc:=h x (List.mem_of_getElem? hx) y;obtain⟨k1,k2⟩:=ih s' (i+1) (by rw[←List.drop_drop,hd];rfl) (by rw[←List.drop_drop,hd'];rfl) J;rw[Te.Nk];cases hxy:Q7 x y with
     |true =>
      rw[hxy]at hc;rw[Bool.true_and];exact⟨fun e=>.more (Uz hx hy hl hc) (k1 e),fun e=>.more (Uz hx hy hl hc) (k2 e)⟩
     |false =>
      rw[hxy]at hc;exact⟨fun e=>by simp at e,fun _=>.stop (b0o hx hy hc) (fun h=>by cases h)⟩
  obtain⟨k1,k2⟩:=loop a b 0 rfl rfl (Nat.zero_le _);cases hab:Q7 a b with
  |true=>exact pW [.av (j3 a.length),.av (j3 b.length),yF,.av (j3 a.length)] [.inv [1,2,15,16,17] 0 (.out 0) (Dh)] [(vi ↑a.length)=(vi (↑(List.map Te.enc a).length)),(vi ↑b.length)=(vi (↑(List.map Te.enc b).length)),Bt .neq 3 11 13 ↑a.length ↑b.length bF,(vi ↑a.length)=(vi (↑(List.map Te.enc a).length)),y7 EX (.loop (M9 (P6 f106) [1,1,0,1,0,0])) (oQ a b 0) (.out 0) (Dh)] func106 ⟨H7 _,H7 _,E9 (by simp[hne]),H7 _,(k1 hab).K3,Z⟩
  |false=>exact pW [.av (j3 a.length),.av (j3 b.length),yF,.av (j3 a.length)] [.inv [1,2,15,16,17] 0 (.ret) (Dg false)] [(vi ↑a.length)=(vi (↑(List.map Te.enc a).length)),(vi ↑b.length)=(vi (↑(List.map Te.enc b).length)),Bt .neq 3 11 13 ↑a.length ↑b.length bF,(vi ↑a.length)=(vi (↑(List.map Te.enc a).length)),y7 EX (.loop (M9 (P6 f106) [1,1,0,1,0,0])) (oQ a b 0) (.ret) (Dg false)] func106 ⟨H7 _,H7 _,E9 (by simp[hne]),H7 _,(k2 hab).K3,Z⟩
 ·have e:Q7 a b=false:=decide_eq_false fun e=>hne (congrArg List.length e)
  rw[e];exact pV [.av (j3 a.length),.av (j3 b.length),yT] [(vi ↑a.length)=(vi (↑(List.map Te.enc a).length)),(vi ↑b.length)=(vi (↑(List.map Te.enc b).length)),Bt .neq 3 11 13 ↑a.length ↑b.length bT] func106 ⟨H7 _,H7 _,E9 (by simp;omega),Z⟩
theorem a7T:∀(N:Nat) (a b:Te),a.size≤N→a.Wf→j5 63 [o7 a,o7 b] (j6 (Q7 a b)):=by
 intro N
 induction N with
 |zero=>intro a b h;have:=Te.size_pos a;omega
 |succ N ih =>
  intro a b hN hw;rw[Te.same_iff];cases hk:decide (a.kind=b.kind) with
  |false=>exact pV [yF] [Bt .eql 3 6 8 a.kind b.kind bF] func63 ⟨A9 hk,Z⟩
  |true =>
   cases hs:decide (a.np=b.np) && decide (a.nn=b.nn) with
   |false=>exact pV [yT,yF] [Bt .eql 3 6 8 a.kind b.kind bT,Bn .eql 45 (.tmp 12) (.tmp 14) (Value.agg #[str a.np,str a.nn]) (Value.agg #[str b.np,str b.nn]) bF] func63 ⟨A9 hk,ah hs,Z⟩
   |true =>
    have h1:=a5O hw.val b.val;cases hv:Q7 a.val b.val with
    |false =>
     rw[hv]at h1;exact pV [yT,yT,yF] [Bt .eql 3 6 8 a.kind b.kind bT,Bn .eql 45 (.tmp 12) (.tmp 14) (Value.agg #[str a.np,str a.nn]) (Value.agg #[str b.np,str b.nn]) bT,_] func63 ⟨A9 hk,ah hs,h1,Z⟩
    |true =>
     rw[hv]at h1;exact pV [yT,yT,yT,.av (j6 (Q7 a.args b.args))] [Bt .eql 3 6 8 a.kind b.kind bT,Bn .eql 45 (.tmp 12) (.tmp 14) (Value.agg #[str a.np,str a.nn]) (Value.agg #[str b.np,str b.nn]) bT,_,j5 106 [(.dt (.row (List.map Te.enc a.args))),(.dt (.row (List.map Te.enc b.args))),(.Z6 63 [])] (j6 (Q7 a.args b.args))] func63 ⟨A9 hk,ah hs,h1,a08 hw.len fun x hx y=>ih x y (by have:=Te.vR hx;omega) (hw.kids hx),Z⟩
theorem Tx{a:Te}(h:a.Wf)(b:Te):j5 63 [o7 a,o7 b] (j6 (Q7 a b)):=a7T _ a b (Nat.le_refl _) h
abbrev oU(a b:List Te)(i:Int):AS:=⟨stt 27 [(0,D9 a),(1,D9 b),(5,j3 i)],[]⟩
abbrev Di(b:Bool):AS:=⟨stt 27 [(4,j6 b)],[]⟩
abbrev Dj:AS:=⟨stt 27 [],[]⟩
noncomputable abbrev ze:Code:=M9 (P6 f52) [1,1,0,1,0,0]
theorem UA{a b:List Te}{x y:Te}{i:Nat}(hx:a[i]?=some x)(hy:b[i]?=some y)(hl:a.length≤9223372036854775807)(h:j5 21 [o7 x,o7 y] (j6 true)):y7 EX ze (oU a b i) .F4 (oU a b ((i+1:Nat):Int)) :=
 tW [.av (j3 a.length),yT,.av (.pin ((p9 x).map .dt)),.av (.pin ((p9 y).map .dt)),yT,.av (j3 ((i+1:Nat):Int))] [] [0,1,5] 0 [(vi ↑a.length)=(vi (↑(List.map Te.enc a).length)),Bt .lss 3 11 13 ↑i ↑a.length bT,z8 (List.map Te.enc a) ↑i 11 (p9 x),z8 (List.map Te.enc b) ↑i 11 (p9 y),j5 21 [(o7 x),(o7 y)] (j6 true),Bk .add 3 15 1 ↑i (vi (↑(i+1)))]     ⟨H7 _,C9 (decide_eq_true (by have:=(List.getElem?_eq_some_iff.1 hx).1;omega)),L8 hx,L8 hy,h,I4 J J (by have:=(List.getElem?_eq_some_iff.1 hx).1;omega),Z⟩
theorem b0p{a b:List Te}{i:Nat}(hi:i=a.length):y7 EX ze (oU a b i) (.out 0) Dj :=
 tW [.av (j3 a.length),yF] [] [] 0 [(vi ↑a.length)=(vi (↑(List.map Te.enc a).length)),Bt .lss 3 11 13 ↑i ↑a.length bF]     ⟨H7 _,C9 (decide_eq_false J),Z⟩
theorem b0q{a b:List Te}{x y:Te}{i:Nat}(hx:a[i]?=some x)(hy:b[i]?=some y)(h:j5 21 [o7 x,o7 y] (j6 false)):y7 EX ze (oU a b i) .ret (Di false) :=
 tW [.av (j3 a.length),yT,.av (.pin ((p9 x).map .dt)),.av (.pin ((p9 y).map .dt)),yF] [] [4] 0 [(vi ↑a.length)=(vi (↑(List.map Te.enc a).length)),Bt .lss 3 11 13 ↑i ↑a.length bT,z8 (List.map Te.enc a) ↑i 11 (p9 x),z8 (List.map Te.enc b) ↑i 11 (p9 y),j5 21 [(o7 x),(o7 y)] (j6 false)]     ⟨H7 _,C9 (decide_eq_true (by have:=(List.getElem?_eq_some_iff.1 hx).1;omega)),L8 hx,L8 hy,h,Z⟩
theorem a09{a b:List Te}(hl:a.length≤9223372036854775807)(h:∀x∈a,∀y,j5 21 [o7 x,o7 y] (j6 (Q7 x y))):j5 52 [D9 a,D9 b] (j6 (Q7 a b)):=by
 by_cases hne:a.length=b.length
 ·have loop:∀(s s':List Te) (i:Nat),a.drop i=s→b.drop i=s'→i≤a.length→(Q7 s s'=true→J7 EX ze (oU a b i) (.out 0) Dj)∧(Q7 s s'=false→J7 EX ze (oU a b i) .ret (Di false)):=by
   intro s
   induction s with
   |nil =>
    intro s' i hd hd' hi;have e1:=congrArg List.length hd;rw[List.length_drop,List.length_nil]at e1;have e2:=congrArg List.length hd';rw[List.length_drop]at e2;obtain rfl:s'=[]:=List.eq_nil_of_length_eq_zero J;exact⟨fun _=>.stop (b0p J) (fun h=>by cases h),fun h=>by simp at h⟩
   |cons x s ih =>
    intro s' i hd hd' hi;have hx:a[i]?=some x:=by rw[←List.head?_drop,hd];rfl
    have hlt:=(List.getElem?_eq_some_iff.1 hx).1;cases s' with
    |nil =>
     have e2:=congrArg List.length hd';rw[List.length_drop,List.length_nil]at e2;omega
    |cons y s' =>
     have hy:b[i]?=some y:=by rw[←List.head?_drop,hd'];rfl
     have hc:=h x (List.mem_of_getElem? hx) y;obtain⟨k1,k2⟩:=ih s' (i+1) (by rw[←List.drop_drop,hd];rfl) (by rw[←List.drop_drop,hd'];rfl) J;rw[Te.Nk];cases hxy:Q7 x y with
     |true =>
      rw[hxy]at hc;rw[Bool.true_and];exact⟨fun e=>.more (UA hx hy hl hc) (k1 e),fun e=>.more (UA hx hy hl hc) (k2 e)⟩
     |false =>
      rw[hxy]at hc;exact⟨fun e=>by simp at e,fun _=>.stop (b0q hx hy hc) (fun h=>by cases h)⟩
  obtain⟨k1,k2⟩:=loop a b 0 rfl rfl (Nat.zero_le _);cases hab:Q7 a b with
  |true=>exact pW [.av (j3 a.length),.av (j3 b.length),yF] [.inv [0,1,5] 0 (.out 0) (Dj)] [(vi ↑a.length)=(vi (↑(List.map Te.enc a).length)),(vi ↑b.length)=(vi (↑(List.map Te.enc b).length)),Bt .neq 3 7 9 ↑a.length ↑b.length bF,y7 EX (.loop (M9 (P6 f52) [1,1,0,1,0,0])) (oU a b 0) (.out 0) (Dj)] func52 ⟨H7 _,H7 _,E9 (by simp[hne]),(k1 hab).K3,Z⟩
  |false=>exact pW [.av (j3 a.length),.av (j3 b.length),yF] [.inv [0,1,5] 0 (.ret) (Di false)] [(vi ↑a.length)=(vi (↑(List.map Te.enc a).length)),(vi ↑b.length)=(vi (↑(List.map Te.enc b).length)),Bt .neq 3 7 9 ↑a.length ↑b.length bF,y7 EX (.loop (M9 (P6 f52) [1,1,0,1,0,0])) (oU a b 0) (.ret) (Di false)] func52 ⟨H7 _,H7 _,E9 (by simp[hne]),(k2 hab).K3,Z⟩
 ·have e:Q7 a b=false:=decide_eq_false fun e=>hne (congrArg List.length e)
  rw[e];exact pV [.av (j3 a.length),.av (j3 b.length),yT] [(vi ↑a.length)=(vi (↑(List.map Te.enc a).length)),(vi ↑b.length)=(vi (↑(List.map Te.enc b).length)),Bt .neq 3 7 9 ↑a.length ↑b.length bT] func52 ⟨H7 _,H7 _,E9 (by simp;omega),Z⟩
theorem a5P:∀(N:Nat) (a b:Te),a.size≤N→a.Wf→j5 21 [o7 a,o7 b] (j6 (Q7 a b)):=by
 intro N
 induction N with
 |zero=>intro a b h;have:=Te.size_pos a;omega
 |succ N ih =>
  intro a b hN hw;rw[Te.same_iff];cases hk:decide (a.kind=b.kind) with
  |false=>exact pV [yF] [Bt .eql 3 6 8 a.kind b.kind bF] func21 ⟨A9 hk,Z⟩
  |true =>
   cases hs:decide (a.np=b.np) && decide (a.nn=b.nn) with
   |false=>exact pV [yT,yF] [Bt .eql 3 6 8 a.kind b.kind bT,Bn .eql 45 (.tmp 12) (.tmp 14) (Value.agg #[str a.np,str a.nn]) (Value.agg #[str b.np,str b.nn]) bF] func21 ⟨A9 hk,ah hs,Z⟩
   |true =>
    have h1:=Rj hw.val b.val;cases hv:Q7 a.val b.val with
    |false =>
     rw[hv]at h1;exact pV [yT,yT,yF] [Bt .eql 3 6 8 a.kind b.kind bT,Bn .eql 45 (.tmp 12) (.tmp 14) (Value.agg #[str a.np,str a.nn]) (Value.agg #[str b.np,str b.nn]) bT,_] func21 ⟨A9 hk,ah hs,h1,Z⟩
    |true =>
     rw[hv]at h1;exact pV [yT,yT,yT,.av (j6 (Q7 a.args b.args))] [Bt .eql 3 6 8 a.kind b.kind bT,Bn .eql 45 (.tmp 12) (.tmp 14) (Value.agg #[str a.np,str a.nn]) (Value.agg #[str b.np,str b.nn]) bT,_,j5 52 [(.dt (.row (List.map Te.enc a.args))),(.dt (.row (List.map Te.enc b.args)))] (j6 (Q7 a.args b.args))] func21 ⟨A9 hk,ah hs,h1,a09 hw.len fun x hx y=>ih x y (by have:=Te.vR hx;omega) (hw.kids hx),Z⟩
theorem a7U{a:Te}(h:a.Wf)(b:Te):j5 21 [o7 a,o7 b] (j6 (Q7 a b)):=a5P _ a b (Nat.le_refl _) h
abbrev ru(c:List Te)(f:FuncId)(cs:List AV)(i:Int):AS:=⟨stt 19 [(0,D9 c),(1,.Z6 f cs),(7,j3 c.length),(8,j3 i)],[]⟩
abbrev KA(i:Int):AS:=⟨stt 19 [(4,j3 i)],[]⟩
abbrev Dk:AS:=⟨stt 19 [],[]⟩
noncomputable abbrev zf:Code:=M9 (P6 f104) [1,0,1,0,0]
theorem UB{c:List Te}{f:FuncId}{cs:List AV}{x:Te}{i:Nat}(hx:c[i]?=some x)(hl:c.length≤9223372036854775807)(h:j5 f ([o7 x]++cs) (j6 false)):y7 EX zf (ru c f cs i) .F4 (ru c f cs ((i+1:Nat):Int)) :=
 tW [yT,.av (.pin ((p9 x).map .dt)),yF,.av (j3 ((i+1:Nat):Int))] [] [0,1,7,8] 0 [Bt .lss 3 8 7 ↑i ↑c.length bT,z8 (List.map Te.enc c) ↑i 11 (p9 x),j5 f ([(o7 x)]++cs) (j6 false),Bk .add 3 8 1 ↑i (vi (↑(i+1)))]     ⟨C9 (decide_eq_true (by have:=(List.getElem?_eq_some_iff.1 hx).1;omega)),L8 hx,h,I4 J J (by have:=(List.getElem?_eq_some_iff.1 hx).1;omega),Z⟩
theorem b0r{c:List Te}{f:FuncId}{cs:List AV}{i:Nat}(hi:i=c.length):y7 EX zf (ru c f cs i) (.out 0) Dk :=
 tW [yF] [] [] 0 [Bt .lss 3 8 7 ↑i ↑c.length bF]     ⟨C9 (decide_eq_false J),Z⟩
theorem b0s{c:List Te}{f:FuncId}{cs:List AV}{x:Te}{i:Nat}(hx:c[i]?=some x)(h:j5 f ([o7 x]++cs) (j6 true)):y7 EX zf (ru c f cs i) .ret (KA i) :=
 tW [yT,.av (.pin ((p9 x).map .dt)),yT] [] [4] 0 [Bt .lss 3 8 7 ↑i ↑c.length bT,z8 (List.map Te.enc c) ↑i 11 (p9 x),j5 f ([(o7 x)]++cs) (j6 true)]     ⟨C9 (decide_eq_true (by have:=(List.getElem?_eq_some_iff.1 hx).1;omega)),L8 hx,h,Z⟩
theorem a1a{c:List Te}{f:FuncId}{cs:List AV}{p:Te→Bool}(hl:c.length≤9223372036854775807)(h:∀x∈c,j5 f ([o7 x]++cs) (j6 (p x))):∃k:Int,j5 104 [D9 c,.Z6 f cs] (j3 k)∧decide (0≤k)=c.any p:=by
 have loop:∀(s:List Te) (i:Nat),c.drop i=s→i≤c.length→(s.any p=true→∃j:Nat,J7 EX zf (ru c f cs i) .ret (KA j))∧(s.any p=false→J7 EX zf (ru c f cs i) (.out 0) Dk):=by
  intro s
  induction s with
  |nil =>
   intro i hd hi;have e1:=congrArg List.length hd;rw[List.length_drop,List.length_nil]at e1;exact⟨fun h=>by simp at h,fun _=>.stop (b0r J) (fun h=>by cases h)⟩
  |cons x s ih =>
   intro i hd hi;have hx:c[i]?=some x:=by rw[←List.head?_drop,hd];rfl
   have hlt:=(List.getElem?_eq_some_iff.1 hx).1;have hc:=h x (List.mem_of_getElem? hx);obtain⟨k1,k2⟩:=ih (i+1) (by rw[←List.drop_drop,hd];rfl) J;rw[List.any_cons];cases hp:p x with
   |true =>
    rw[hp]at hc;exact⟨fun _=>⟨i,.stop (b0s hx hc) (fun h=>by cases h)⟩,fun e=>by simp at e⟩
   |false =>
    rw[hp]at hc;rw[Bool.false_or];exact⟨fun e=>(k1 e).elim fun j hj=>⟨j,.more (UB hx hl hc) hj⟩,fun e=>.more (UB hx hl hc) (k2 e)⟩
 obtain⟨k1,k2⟩:=loop c 0 rfl (Nat.zero_le _);cases hp:c.any p with
 |true =>
  obtain⟨j,hj⟩:=k1 hp;exact⟨j,pW [.av (j3 c.length)] [.inv [0,1,7,8] 0 (.ret) (KA j)] [(vi ↑c.length)=(vi (↑(List.map Te.enc c).length)),_] func104 ⟨H7 _,hj.K3,Z⟩,decide_eq_true J⟩
 |false=>exact⟨-1,pW [.av (j3 c.length)] [.inv [0,1,7,8] 0 (.out 0) (Dk)] [(vi ↑c.length)=(vi (↑(List.map Te.enc c).length)),y7 EX (.loop (M9 (P6 f104) [1,0,1,0,0])) (ru c f cs 0) (.out 0) (Dk)] func104 ⟨H7 _,(k2 hp).K3,Z⟩,rfl⟩
theorem FE{c:List Te}{f:FuncId}{cs:List AV}{p:Te→Bool}(hl:c.length≤9223372036854775807)(h:∀x∈c,j5 f ([o7 x]++cs) (j6 (p x))):j5 60 [D9 c,.Z6 f cs] (j6 (c.any p)):=by
 obtain⟨k,h1,h2⟩:=a1a hl h;rw[←h2];exact pV [.av (j3 k),.av (j6 (decide (0≤k)))] [_,Bk .geq 3 7 0 k (Value.bool (decide (0≤k)))] func60 ⟨h1,R7 rfl,Z⟩
theorem a3m{x:Te}(hx:x.Wf)(t:Te):j5 107 [o7 x,.pin ((p9 t).map .dt)] (j6 (Q7 x t)):=pV [.av (j6 (Q7 x t))] [j5 63 [(o7 x),(o7 t)] (j6 (Q7 x t))] func107 ⟨Tx hx t,Z⟩
theorem PN{c:List Te}{t:Te}:c.any (fun x=>Q7 x t)=decide (t∈c):=by
 rw[Bool.eq_iff_iff,List.any_eq_true,decide_eq_true_iff];exact⟨fun⟨x,hx,e⟩=>(of_decide_eq_true e) ▸ hx,fun h=>⟨t,h,decide_eq_true rfl⟩⟩
theorem gM{c:List Te}(hl:c.length≤9223372036854775807)(h:∀x∈c,x.Wf)(t:Te):j5 64 [D9 c,o7 t] (j6 (decide (t∈c))) :=
 pV [.av (j6 (decide (t∈c)))] [j5 60 [(.dt (.row (List.map Te.enc c))),(.Z6 107 [(.pin ((p9 t).map .dt))])] (j6 (decide (t∈c)))] func64 ⟨(FE (p:=fun x=>Q7 x t) hl fun x hx=>a3m (h x hx) t).b PN,Z⟩
abbrev oV(c:List Te)(t:Te)(i:Int):AS:=⟨stt 18 [(0,D9 c),(3,.ptr 0 0),(5,j3 i)],[some (.cells ((p9 t).map .dt))]⟩
abbrev Dl(t:Te)(b:Bool):AS:=⟨stt 18 [(4,j6 b)],[some (.cells ((p9 t).map .dt))]⟩
abbrev Dm(t:Te):AS:=⟨stt 18 [],[some (.cells ((p9 t).map .dt))]⟩
noncomputable abbrev zg:Code:=M9 (P6 f45) [1,0,1,0,0]
theorem UC{c:List Te}{t x:Te}{i:Nat}(hx:c[i]?=some x)(hl:c.length≤9223372036854775807)(h:j5 21 [o7 x,o7 t] (j6 false)):y7 EX zg (oV c t i) .F4 (oV c t ((i+1:Nat):Int)) :=
 tW [.av (j3 c.length),yT,.av (.pin ((p9 x).map .dt)),yF,.av (j3 ((i+1:Nat):Int))] [] [0,3,5] 1 [(vi ↑c.length)=(vi (↑(List.map Te.enc c).length)),Bt .lss 3 6 8 ↑i ↑c.length bT,z8 (List.map Te.enc c) ↑i 11 (p9 x),j5 21 [(o7 x),(o7 t)] (j6 false),Bk .add 3 10 1 ↑i (vi (↑(i+1)))]     ⟨H7 _,C9 (decide_eq_true (by have:=(List.getElem?_eq_some_iff.1 hx).1;omega)),L8 hx,h,I4 J J (by have:=(List.getElem?_eq_some_iff.1 hx).1;omega),Z⟩
theorem b0t{c:List Te}{t:Te}{i:Nat}(hi:i=c.length):y7 EX zg (oV c t i) (.out 0) (Dm t) :=
 tW [.av (j3 c.length),yF] [] [] 1 [(vi ↑c.length)=(vi (↑(List.map Te.enc c).length)),Bt .lss 3 6 8 ↑i ↑c.length bF]     ⟨H7 _,C9 (decide_eq_false J),Z⟩
theorem b0u{c:List Te}{t x:Te}{i:Nat}(hx:c[i]?=some x)(h:j5 21 [o7 x,o7 t] (j6 true)):y7 EX zg (oV c t i) .ret (Dl t true) :=
 tW [.av (j3 c.length),yT,.av (.pin ((p9 x).map .dt)),yT] [] [4] 1 [(vi ↑c.length)=(vi (↑(List.map Te.enc c).length)),Bt .lss 3 6 8 ↑i ↑c.length bT,z8 (List.map Te.enc c) ↑i 11 (p9 x),j5 21 [(o7 x),(o7 t)] (j6 true)]     ⟨H7 _,C9 (decide_eq_true (by have:=(List.getElem?_eq_some_iff.1 hx).1;omega)),L8 hx,h,Z⟩
theorem PO{c:List Te}(hl:c.length≤9223372036854775807)(h:∀x∈c,x.Wf)(t:Te):j5 45 [D9 c,o7 t] (j6 (decide (t∈c))):=by
 have loop:∀(s:List Te) (i:Nat),c.drop i=s→i≤c.length→(s.any (fun x=>Q7 x t)=true→J7 EX zg (oV c t i) .ret (Dl t true))∧(s.any (fun x=>Q7 x t)=false→J7 EX zg (oV c t i) (.out 0) (Dm t)):=by
  intro s
  induction s with
  |nil =>
   intro i hd hi;have e1:=congrArg List.length hd;rw[List.length_drop,List.length_nil]at e1;exact⟨fun h=>by simp at h,fun _=>.stop (b0t J) (fun h=>by cases h)⟩
  |cons x s ih =>
   intro i hd hi;have hx:c[i]?=some x:=by rw[←List.head?_drop,hd];rfl
   have hlt:=(List.getElem?_eq_some_iff.1 hx).1;have hc:=a7U (h x (List.mem_of_getElem? hx)) t;obtain⟨k1,k2⟩:=ih (i+1) (by rw[←List.drop_drop,hd];rfl) J;rw[List.any_cons];cases hp:Q7 x t with
   |true =>
    rw[hp]at hc;exact⟨fun _=>.stop (b0u hx hc) (fun h=>by cases h),fun e=>by simp at e⟩
   |false =>
    rw[hp]at hc;rw[Bool.false_or];exact⟨fun e=>.more (UC hx hl hc) (k1 e),fun e=>.more (UC hx hl hc) (k2 e)⟩
 obtain⟨k1,k2⟩:=loop c 0 rfl (Nat.zero_le _);rw[←PN];cases hp:c.any fun x=>Q7 x t with
 |true=>exact pW [] [.inv [0,3,5] 1 (.ret) (Dl t true)] [y7 EX (.loop (M9 (P6 f45) [1,0,1,0,0])) (oV c t 0) (.ret) (Dl t true)] func45 ⟨(k1 hp).K3,Z⟩
 |false=>exact pW [] [.inv [0,3,5] 1 (.out 0) (Dm t)] [y7 EX (.loop (M9 (P6 f45) [1,0,1,0,0])) (oV c t 0) (.out 0) (Dm t)] func45 ⟨(k2 hp).K3,Z⟩
namespace Te
theorem Z8{t:Te}{n:bi}{k i:Nat}(h:is t n k)(hi:i < k):t.args[i]?=some (t.arg i):=by
 have hl:t.args.length=k:=h.2.2.2;unfold arg;rw[List.getD_eq_getElem?_getD,List.getElem?_eq_getElem J];rfl
theorem gW(a:Te):[p9 a]=[a].map Te.enc:=by simp only[List.map_cons,List.map_nil,xB]
theorem UD(a b c:Te):[p9 a,p9 b,p9 c]=[a,b,c].map Te.enc:=by simp only[List.map_cons,List.map_nil,xB]
end Te
open Te
theorem jS(n:bi)(a:Te):j5 49 [stA n,.dt (.row [p9 a])] (o7 (Te.ap n [a])):=FV n [a] (gW a)
theorem a1b(n:bi)(a:Te):j5 29 [stA n,.dt (.row [p9 a])] (o7 (Te.ap n [a])):=FW n [a] (gW a)
theorem je(n:bi)(a b c:Te):j5 49 [stA n,.dt (.row [p9 a,p9 b,p9 c])] (o7 (Te.ap n [a,b,c])):=FV n [a,b,c] (UD a b c)
theorem a1c(n:bi)(a b c:Te):j5 29 [stA n,.dt (.row [p9 a,p9 b,p9 c])] (o7 (Te.ap n [a,b,c])):=FW n [a,b,c] (UD a b c)
abbrev opA:Option Te→Te→AV
 |some t,_=>.l7 [o7 t,j6 true]
 |none,t=>.l7 [o7 t,j6 false]
theorem U4{p:Prop}[Decidable p](h:p):decide p=true:=decide_eq_true h
theorem K9{p:Prop}[Decidable p](h:¬p):decide p=false:=decide_eq_false h
theorem xD(t:Te):j5 31 [o7 t] (o7 (neg t)):=by
 unfold neg;by_cases h:is t D5 1
 ·rw[if_pos h];have h0:=Z8 h (show 0 < 1 by omega);generalize t.arg 0=a at *;exact pV [yT,.av (.pin ((p9 a).map .dt))] [j5 62 [(.agg [(j3 t.kind),(stA t.np),(stA t.nn),(j3 t.val.kind),(stA t.val.num),(stA t.val.den),(stA t.val.sp),(stA t.val.sn),(stA t.val.text),(.dt (.row (List.map Ob.enc t.val.pair))),(.dt (.row (List.map enc t.args)))]),(stA [110,111,116]),(j3 1)] (j6 true),z8 (List.map enc t.args) 0 11 ([(.val (vi a.kind)),(.val (str a.np)),(.val (str a.nn)),(.val (vi a.val.kind)),(.val (str a.val.num)),(.val (str a.val.den)),(.val (str a.val.sp)),(.val (str a.val.sn)),(.val (str a.val.text)),(.row (List.map Ob.enc a.val.pair)),(.row (List.map enc a.args))])] func31 ⟨(ay t D5 1).b (U4 h),L8 h0,Z⟩
 ·rw[if_neg h];exact pV [yF,.av (o7 (ap D5 [t]))] [j5 62 [(.agg [(j3 t.kind),(stA t.np),(stA t.nn),(j3 t.val.kind),(stA t.val.num),(stA t.val.den),(stA t.val.sp),(stA t.val.sn),(stA t.val.text),(.dt (.row (List.map Ob.enc t.val.pair))),(.dt (.row (List.map enc t.args)))]),(stA [110,111,116]),(j3 1)] (j6 false),j5 49 [(stA [110,111,116]),(.dt (.row [[(.val (vi t.kind)),(.val (str t.np)),(.val (str t.nn)),(.val (vi t.val.kind)),(.val (str t.val.num)),(.val (str t.val.den)),(.val (str t.val.sp)),(.val (str t.val.sn)),(.val (str t.val.text)),(.row (List.map Ob.enc t.val.pair)),(.row (List.map enc t.args))]]))] (.agg [(j3 ((ap D5 [t]).kind)),(stA (ap D5 [t]).np),(stA (ap D5 [t]).nn),(j3 ((ap D5 [t]).val.kind)),(stA (ap D5 [t]).val.num),(stA (ap D5 [t]).val.den),(stA (ap D5 [t]).val.sp),(stA (ap D5 [t]).val.sn),(stA (ap D5 [t]).val.text),(.dt (.row (List.map Ob.enc (ap D5 [t]).val.pair))),(.dt (.row (List.map enc (ap D5 [t]).args)))])] func31 ⟨(ay t D5 1).b (K9 h),FV D5 [t] (gW t),Z⟩
theorem lu(t:Te):j5 102 [o7 t] (opA (opened t) E5):=by
 unfold opened;by_cases h:is t D5 1
 ·rw[if_pos h];have h0:=Z8 h (show 0 < 1 by omega);generalize t.arg 0=a at *;exact pV [.av (o7 p8),.av (o7 noT),yT,.av (.pin ((p9 a).map .dt)),.av (o7 (ap x8 [a,noT,p8]))] [j5 48 [(j6 true)] (.agg [(j3 2),(stA p8.np),(stA p8.nn),(j3 2),(stA p8.val.num),(stA p8.val.den),(stA p8.val.sp),(stA p8.val.sn),(stA p8.val.text),(.dt (.row (List.map Ob.enc p8.val.pair))),(.dt (.row (List.map enc p8.args)))]),j5 48 [(j6 false)] (.agg [(j3 2),(stA noT.np),(stA noT.nn),(j3 2),(stA noT.val.num),(stA noT.val.den),(stA noT.val.sp),(stA noT.val.sn),(stA noT.val.text),(.dt (.row (List.map Ob.enc noT.val.pair))),(.dt (.row (List.map enc noT.args)))]),j5 62 [(.agg [(j3 t.kind),(stA t.np),(stA t.nn),(j3 t.val.kind),(stA t.val.num),(stA t.val.den),(stA t.val.sp),(stA t.val.sn),(stA t.val.text),(.dt (.row (List.map Ob.enc t.val.pair))),(.dt (.row (List.map enc t.args)))]),(stA [110,111,116]),(j3 1)] (j6 true),z8 (List.map enc t.args) 0 11 ([(.val (vi a.kind)),(.val (str a.np)),(.val (str a.nn)),(.val (vi a.val.kind)),(.val (str a.val.num)),(.val (str a.val.den)),(.val (str a.val.sp)),(.val (str a.val.sn)),(.val (str a.val.text)),(.row (List.map Ob.enc a.val.pair)),(.row (List.map enc a.args))]),j5 49 [(stA [105,102]),(.dt (.row [[(.val (vi a.kind)),(.val (str a.np)),(.val (str a.nn)),(.val (vi a.val.kind)),(.val (str a.val.num)),(.val (str a.val.den)),(.val (str a.val.sp)),(.val (str a.val.sn)),(.val (str a.val.text)),(.row (List.map Ob.enc a.val.pair)),(.row (List.map enc a.args))],[(.val (vi 2)),(.val (str noT.np)),(.val (str noT.nn)),(.val (vi 2)),(.val (str noT.val.num)),(.val (str noT.val.den)),(.val (str noT.val.sp)),(.val (str noT.val.sn)),(.val (str noT.val.text)),(.row (List.map Ob.enc noT.val.pair)),(.row (List.map enc noT.args))],[(.val (vi 2)),(.val (str p8.np)),(.val (str p8.nn)),(.val (vi 2)),(.val (str p8.val.num)),(.val (str p8.val.den)),(.val (str p8.val.sp)),(.val (str p8.val.sn)),(.val (str p8.val.text)),(.row (List.map Ob.enc p8.val.pair)),(.row (List.map enc p8.args))]]))] (.agg [(j3 ((ap x8 [a,noT,p8]).kind)),(stA (ap x8 [a,noT,p8]).np),(stA (ap x8 [a,noT,p8]).nn),(j3 ((ap x8 [a,noT,p8]).val.kind)),(stA (ap x8 [a,noT,p8]).val.num),(stA (ap x8 [a,noT,p8]).val.den),(stA (ap x8 [a,noT,p8]).val.sp),(stA (ap x8 [a,noT,p8]).val.sn),(stA (ap x8 [a,noT,p8]).val.text),(.dt (.row (List.map Ob.enc (ap x8 [a,noT,p8]).val.pair))),(.dt (.row (List.map enc (ap x8 [a,noT,p8]).args)))])] func102 ⟨kY true,kY false,(ay t D5 1).b (U4 h),L8 h0,je x8 a noT p8,Z⟩
 rw[if_neg h];by_cases h2:is t qF 2
 ·rw[if_pos h2];have h0:=Z8 h2 (show 0 < 2 by omega);have h1:=Z8 h2 (show 1 < 2 by omega);generalize t.arg 0=a at *;generalize t.arg 1=b at *;exact pV [.av (o7 p8),.av (o7 noT),yF,yT,.av (.pin ((p9 a).map .dt)),.av (.pin ((p9 b).map .dt)),.av (o7 (ap x8 [b,p8,noT])),.av (o7 (ap x8 [a,ap x8 [b,p8,noT],p8]))] [j5 48 [(j6 true)] (.agg [(j3 2),(stA p8.np),(stA p8.nn),(j3 2),(stA p8.val.num),(stA p8.val.den),(stA p8.val.sp),(stA p8.val.sn),(stA p8.val.text),(.dt (.row (List.map Ob.enc p8.val.pair))),(.dt (.row (List.map enc p8.args)))]),j5 48 [(j6 false)] (.agg [(j3 2),(stA noT.np),(stA noT.nn),(j3 2),(stA noT.val.num),(stA noT.val.den),(stA noT.val.sp),(stA noT.val.sn),(stA noT.val.text),(.dt (.row (List.map Ob.enc noT.val.pair))),(.dt (.row (List.map enc noT.args)))]),j5 62 [(.agg [(j3 t.kind),(stA t.np),(stA t.nn),(j3 t.val.kind),(stA t.val.num),(stA t.val.den),(stA t.val.sp),(stA t.val.sn),(stA t.val.text),(.dt (.row (List.map Ob.enc t.val.pair))),(.dt (.row (List.map enc t.args)))]),(stA [110,111,116]),(j3 1)] (j6 false),j5 62 [(.agg [(j3 t.kind),(stA t.np),(stA t.nn),(j3 t.val.kind),(stA t.val.num),(stA t.val.den),(stA t.val.sp),(stA t.val.sn),(stA t.val.text),(.dt (.row (List.map Ob.enc t.val.pair))),(.dt (.row (List.map enc t.args)))]),(stA [105,109,112,108,105,101,115]),(j3 2)] (j6 true),z8 (List.map enc t.args) 0 11 ([(.val (vi a.kind)),(.val (str a.np)),(.val (str a.nn)),(.val (vi a.val.kind)),(.val (str a.val.num)),(.val (str a.val.den)),(.val (str a.val.sp)),(.val (str a.val.sn)),(.val (str a.val.text)),(.row (List.map Ob.enc a.val.pair)),(.row (List.map enc a.args))]),z8 (List.map enc t.args) 1 11 ([(.val (vi b.kind)),(.val (str b.np)),(.val (str b.nn)),(.val (vi b.val.kind)),(.val (str b.val.num)),(.val (str b.val.den)),(.val (str b.val.sp)),(.val (str b.val.sn)),(.val (str b.val.text)),(.row (List.map Ob.enc b.val.pair)),(.row (List.map enc b.args))]),j5 49 [(stA [105,102]),(.dt (.row [[(.val (vi b.kind)),(.val (str b.np)),(.val (str b.nn)),(.val (vi b.val.kind)),(.val (str b.val.num)),(.val (str b.val.den)),(.val (str b.val.sp)),(.val (str b.val.sn)),(.val (str b.val.text)),(.row (List.map Ob.enc b.val.pair)),(.row (List.map enc b.args))],[(.val (vi 2)),(.val (str p8.np)),(.val (str p8.nn)),(.val (vi 2)),(.val (str p8.val.num)),(.val (str p8.val.den)),(.val (str p8.val.sp)),(.val (str p8.val.sn)),(.val (str p8.val.text)),(.row (List.map Ob.enc p8.val.pair)),(.row (List.map enc p8.args))],[(.val (vi 2)),(.val (str noT.np)),(.val (str noT.nn)),(.val (vi 2)),(.val (str noT.val.num)),(.val (str noT.val.den)),(.val (str noT.val.sp)),(.val (str noT.val.sn)),(.val (str noT.val.text)),(.row (List.map Ob.enc noT.val.pair)),(.row (List.map enc noT.args))]]))] (.agg [(j3 ((ap x8 [b,p8,noT]).kind)),(stA (ap x8 [b,p8,noT]).np),(stA (ap x8 [b,p8,noT]).nn),(j3 ((ap x8 [b,p8,noT]).val.kind)),(stA (ap x8 [b,p8,noT]).val.num),(stA (ap x8 [b,p8,noT]).val.den),(stA (ap x8 [b,p8,noT]).val.sp),(stA (ap x8 [b,p8,noT]).val.sn),(stA (ap x8 [b,p8,noT]).val.text),(.dt (.row (List.map Ob.enc (ap x8 [b,p8,noT]).val.pair))),(.dt (.row (List.map enc (ap x8 [b,p8,noT]).args)))]),j5 49 [(stA [105,102]),(.dt (.row [[(.val (vi a.kind)),(.val (str a.np)),(.val (str a.nn)),(.val (vi a.val.kind)),(.val (str a.val.num)),(.val (str a.val.den)),(.val (str a.val.sp)),(.val (str a.val.sn)),(.val (str a.val.text)),(.row (List.map Ob.enc a.val.pair)),(.row (List.map enc a.args))],[(.val (vi ((ap x8 [b,p8,noT]).kind))),(.val (str (ap x8 [b,p8,noT]).np)),(.val (str (ap x8 [b,p8,noT]).nn)),(.val (vi ((ap x8 [b,p8,noT]).val.kind))),(.val (str (ap x8 [b,p8,noT]).val.num)),(.val (str (ap x8 [b,p8,noT]).val.den)),(.val (str (ap x8 [b,p8,noT]).val.sp)),(.val (str (ap x8 [b,p8,noT]).val.sn)),(.val (str (ap x8 [b,p8,noT]).val.text)),(.row (List.map Ob.enc (ap x8 [b,p8,noT]).val.pair)),(.row (List.map enc (ap x8 [b,p8,noT]).args))],[(.val (vi 2)),(.val (str p8.np)),(.val (str p8.nn)),(.val (vi 2)),(.val (str p8.val.num)),(.val (str p8.val.den)),(.val (str p8.val.sp)),(.val (str p8.val.sn)),(.val (str p8.val.text)),(.row (List.map Ob.enc p8.val.pair)),(.row (List.map enc p8.args))]]))] (.agg [(j3 ((ap x8 [a,ap x8 [b,p8,noT],p8]).kind)),(stA (ap x8 [a,ap x8 [b,p8,noT],p8]).np),(stA (ap x8 [a,ap x8 [b,p8,noT],p8]).nn),(j3 ((ap x8 [a,ap x8 [b,p8,noT],p8]).val.kind)),(stA (ap x8 [a,ap x8 [b,p8,noT],p8]).val.num),(stA (ap x8 [a,ap x8 [b,p8,noT],p8]).val.den),(stA (ap x8 [a,ap x8 [b,p8,noT],p8]).val.sp),(stA (ap x8 [a,ap x8 [b,p8,noT],p8]).val.sn),(stA (ap x8 [a,ap x8 [b,p8,noT],p8]).val.text),(.dt (.row (List.map Ob.enc (ap x8 [a,ap x8 [b,p8,noT],p8]).val.pair))),(.dt (.row (List.map enc (ap x8 [a,ap x8 [b,p8,noT],p8]).args)))])] func102 ⟨kY true,kY false,(ay t D5 1).b (K9 h),(ay t qF 2).b (U4 h2),L8 h0,L8 h1,je x8 b p8 noT,je x8 a (ap x8 [b,p8,noT]) p8,Z⟩
 rw[if_neg h2];by_cases h3:is t Cs 2
 ·rw[if_pos h3];have h0:=Z8 h3 (show 0 < 2 by omega);have h1:=Z8 h3 (show 1 < 2 by omega);generalize t.arg 0=a at *;generalize t.arg 1=b at *;exact pV [.av (o7 p8),.av (o7 noT),yF,yF,yT,.av (.pin ((p9 a).map .dt)),.av (.pin ((p9 b).map .dt)),.av (o7 (ap x8 [b,p8,noT])),.av (.pin ((p9 b).map .dt)),.av (o7 (ap x8 [b,noT,p8])),.av (o7 (ap x8 [a,ap x8 [b,p8,noT],ap x8 [b,noT,p8]]))] [j5 48 [(j6 true)] (.agg [(j3 2),(stA p8.np),(stA p8.nn),(j3 2),(stA p8.val.num),(stA p8.val.den),(stA p8.val.sp),(stA p8.val.sn),(stA p8.val.text),(.dt (.row (List.map Ob.enc p8.val.pair))),(.dt (.row (List.map enc p8.args)))]),j5 48 [(j6 false)] (.agg [(j3 2),(stA noT.np),(stA noT.nn),(j3 2),(stA noT.val.num),(stA noT.val.den),(stA noT.val.sp),(stA noT.val.sn),(stA noT.val.text),(.dt (.row (List.map Ob.enc noT.val.pair))),(.dt (.row (List.map enc noT.args)))]),j5 62 [(.agg [(j3 t.kind),(stA t.np),(stA t.nn),(j3 t.val.kind),(stA t.val.num),(stA t.val.den),(stA t.val.sp),(stA t.val.sn),(stA t.val.text),(.dt (.row (List.map Ob.enc t.val.pair))),(.dt (.row (List.map enc t.args)))]),(stA [110,111,116]),(j3 1)] (j6 false),j5 62 [(.agg [(j3 t.kind),(stA t.np),(stA t.nn),(j3 t.val.kind),(stA t.val.num),(stA t.val.den),(stA t.val.sp),(stA t.val.sn),(stA t.val.text),(.dt (.row (List.map Ob.enc t.val.pair))),(.dt (.row (List.map enc t.args)))]),(stA [105,109,112,108,105,101,115]),(j3 2)] (j6 false),j5 62 [(.agg [(j3 t.kind),(stA t.np),(stA t.nn),(j3 t.val.kind),(stA t.val.num),(stA t.val.den),(stA t.val.sp),(stA t.val.sn),(stA t.val.text),(.dt (.row (List.map Ob.enc t.val.pair))),(.dt (.row (List.map enc t.args)))]),(stA [105,102,102]),(j3 2)] (j6 true),z8 (List.map enc t.args) 0 11 ([(.val (vi a.kind)),(.val (str a.np)),(.val (str a.nn)),(.val (vi a.val.kind)),(.val (str a.val.num)),(.val (str a.val.den)),(.val (str a.val.sp)),(.val (str a.val.sn)),(.val (str a.val.text)),(.row (List.map Ob.enc a.val.pair)),(.row (List.map enc a.args))]),z8 (List.map enc t.args) 1 11 ([(.val (vi b.kind)),(.val (str b.np)),(.val (str b.nn)),(.val (vi b.val.kind)),(.val (str b.val.num)),(.val (str b.val.den)),(.val (str b.val.sp)),(.val (str b.val.sn)),(.val (str b.val.text)),(.row (List.map Ob.enc b.val.pair)),(.row (List.map enc b.args))]),j5 49 [(stA [105,102]),(.dt (.row [[(.val (vi b.kind)),(.val (str b.np)),(.val (str b.nn)),(.val (vi b.val.kind)),(.val (str b.val.num)),(.val (str b.val.den)),(.val (str b.val.sp)),(.val (str b.val.sn)),(.val (str b.val.text)),(.row (List.map Ob.enc b.val.pair)),(.row (List.map enc b.args))],[(.val (vi 2)),(.val (str p8.np)),(.val (str p8.nn)),(.val (vi 2)),(.val (str p8.val.num)),(.val (str p8.val.den)),(.val (str p8.val.sp)),(.val (str p8.val.sn)),(.val (str p8.val.text)),(.row (List.map Ob.enc p8.val.pair)),(.row (List.map enc p8.args))],[(.val (vi 2)),(.val (str noT.np)),(.val (str noT.nn)),(.val (vi 2)),(.val (str noT.val.num)),(.val (str noT.val.den)),(.val (str noT.val.sp)),(.val (str noT.val.sn)),(.val (str noT.val.text)),(.row (List.map Ob.enc noT.val.pair)),(.row (List.map enc noT.args))]]))] (.agg [(j3 ((ap x8 [b,p8,noT]).kind)),(stA (ap x8 [b,p8,noT]).np),(stA (ap x8 [b,p8,noT]).nn),(j3 ((ap x8 [b,p8,noT]).val.kind)),(stA (ap x8 [b,p8,noT]).val.num),(stA (ap x8 [b,p8,noT]).val.den),(stA (ap x8 [b,p8,noT]).val.sp),(stA (ap x8 [b,p8,noT]).val.sn),(stA (ap x8 [b,p8,noT]).val.text),(.dt (.row (List.map Ob.enc (ap x8 [b,p8,noT]).val.pair))),(.dt (.row (List.map enc (ap x8 [b,p8,noT]).args)))]),z8 (List.map enc t.args) 1 11 ([(.val (vi b.kind)),(.val (str b.np)),(.val (str b.nn)),(.val (vi b.val.kind)),(.val (str b.val.num)),(.val (str b.val.den)),(.val (str b.val.sp)),(.val (str b.val.sn)),(.val (str b.val.text)),(.row (List.map Ob.enc b.val.pair)),(.row (List.map enc b.args))]),j5 49 [(stA [105,102]),(.dt (.row [[(.val (vi b.kind)),(.val (str b.np)),(.val (str b.nn)),(.val (vi b.val.kind)),(.val (str b.val.num)),(.val (str b.val.den)),(.val (str b.val.sp)),(.val (str b.val.sn)),(.val (str b.val.text)),(.row (List.map Ob.enc b.val.pair)),(.row (List.map enc b.args))],[(.val (vi 2)),(.val (str noT.np)),(.val (str noT.nn)),(.val (vi 2)),(.val (str noT.val.num)),(.val (str noT.val.den)),(.val (str noT.val.sp)),(.val (str noT.val.sn)),(.val (str noT.val.text)),(.row (List.map Ob.enc noT.val.pair)),(.row (List.map enc noT.args))],[(.val (vi 2)),(.val (str p8.np)),(.val (str p8.nn)),(.val (vi 2)),(.val (str p8.val.num)),(.val (str p8.val.den)),(.val (str p8.val.sp)),(.val (str p8.val.sn)),(.val (str p8.val.text)),(.row (List.map Ob.enc p8.val.pair)),(.row (List.map enc p8.args))]]))] (.agg [(j3 ((ap x8 [b,noT,p8]).kind)),(stA (ap x8 [b,noT,p8]).np),(stA (ap x8 [b,noT,p8]).nn),(j3 ((ap x8 [b,noT,p8]).val.kind)),(stA (ap x8 [b,noT,p8]).val.num),(stA (ap x8 [b,noT,p8]).val.den),(stA (ap x8 [b,noT,p8]).val.sp),(stA (ap x8 [b,noT,p8]).val.sn),(stA (ap x8 [b,noT,p8]).val.text),(.dt (.row (List.map Ob.enc (ap x8 [b,noT,p8]).val.pair))),(.dt (.row (List.map enc (ap x8 [b,noT,p8]).args)))]),j5 49 [(stA [105,102]),(.dt (.row [[(.val (vi a.kind)),(.val (str a.np)),(.val (str a.nn)),(.val (vi a.val.kind)),(.val (str a.val.num)),(.val (str a.val.den)),(.val (str a.val.sp)),(.val (str a.val.sn)),(.val (str a.val.text)),(.row (List.map Ob.enc a.val.pair)),(.row (List.map enc a.args))],[(.val (vi ((ap x8 [b,p8,noT]).kind))),(.val (str (ap x8 [b,p8,noT]).np)),(.val (str (ap x8 [b,p8,noT]).nn)),(.val (vi ((ap x8 [b,p8,noT]).val.kind))),(.val (str (ap x8 [b,p8,noT]).val.num)),(.val (str (ap x8 [b,p8,noT]).val.den)),(.val (str (ap x8 [b,p8,noT]).val.sp)),(.val (str (ap x8 [b,p8,noT]).val.sn)),(.val (str (ap x8 [b,p8,noT]).val.text)),(.row (List.map Ob.enc (ap x8 [b,p8,noT]).val.pair)),(.row (List.map enc (ap x8 [b,p8,noT]).args))],[(.val (vi ((ap x8 [b,noT,p8]).kind))),(.val (str (ap x8 [b,noT,p8]).np)),(.val (str (ap x8 [b,noT,p8]).nn)),(.val (vi ((ap x8 [b,noT,p8]).val.kind))),(.val (str (ap x8 [b,noT,p8]).val.num)),(.val (str (ap x8 [b,noT,p8]).val.den)),(.val (str (ap x8 [b,noT,p8]).val.sp)),(.val (str (ap x8 [b,noT,p8]).val.sn)),(.val (str (ap x8 [b,noT,p8]).val.text)),(.row (List.map Ob.enc (ap x8 [b,noT,p8]).val.pair)),(.row (List.map enc (ap x8 [b,noT,p8]).args))]]))] (.agg [(j3 ((ap x8 [a,ap x8 [b,p8,noT],ap x8 [b,noT,p8]]).kind)),(stA (ap x8 [a,ap x8 [b,p8,noT],ap x8 [b,noT,p8]]).np),(stA (ap x8 [a,ap x8 [b,p8,noT],ap x8 [b,noT,p8]]).nn),(j3 ((ap x8 [a,ap x8 [b,p8,noT],ap x8 [b,noT,p8]]).val.kind)),(stA (ap x8 [a,ap x8 [b,p8,noT],ap x8 [b,noT,p8]]).val.num),(stA (ap x8 [a,ap x8 [b,p8,noT],ap x8 [b,noT,p8]]).val.den),(stA (ap x8 [a,ap x8 [b,p8,noT],ap x8 [b,noT,p8]]).val.sp),(stA (ap x8 [a,ap x8 [b,p8,noT],ap x8 [b,noT,p8]]).val.sn),(stA (ap x8 [a,ap x8 [b,p8,noT],ap x8 [b,noT,p8]]).val.text),(.dt (.row (List.map Ob.enc (ap x8 [a,ap x8 [b,p8,noT],ap x8 [b,noT,p8]]).val.pair))),(.dt (.row (List.map enc (ap x8 [a,ap x8 [b,p8,noT],ap x8 [b,noT,p8]]).args)))])] func102 ⟨kY true,kY false,(ay t D5 1).b (K9 h),(ay t qF 2).b (K9 h2),(ay t Cs 2).b (U4 h3),L8 h0,L8 h1,je x8 b p8 noT,L8 h1,je x8 b noT p8,je x8 a (ap x8 [b,p8,noT]) (ap x8 [b,noT,p8]),Z⟩
 rw[if_neg h3];exact pV [.av (o7 p8),.av (o7 noT),yF,yF,yF] [j5 48 [(j6 true)] (.agg [(j3 2),(stA p8.np),(stA p8.nn),(j3 2),(stA p8.val.num),(stA p8.val.den),(stA p8.val.sp),(stA p8.val.sn),(stA p8.val.text),(.dt (.row (List.map Ob.enc p8.val.pair))),(.dt (.row (List.map enc p8.args)))]),j5 48 [(j6 false)] (.agg [(j3 2),(stA noT.np),(stA noT.nn),(j3 2),(stA noT.val.num),(stA noT.val.den),(stA noT.val.sp),(stA noT.val.sn),(stA noT.val.text),(.dt (.row (List.map Ob.enc noT.val.pair))),(.dt (.row (List.map enc noT.args)))]),j5 62 [(.agg [(j3 t.kind),(stA t.np),(stA t.nn),(j3 t.val.kind),(stA t.val.num),(stA t.val.den),(stA t.val.sp),(stA t.val.sn),(stA t.val.text),(.dt (.row (List.map Ob.enc t.val.pair))),(.dt (.row (List.map enc t.args)))]),(stA [110,111,116]),(j3 1)] (j6 false),j5 62 [(.agg [(j3 t.kind),(stA t.np),(stA t.nn),(j3 t.val.kind),(stA t.val.num),(stA t.val.den),(stA t.val.sp),(stA t.val.sn),(stA t.val.text),(.dt (.row (List.map Ob.enc t.val.pair))),(.dt (.row (List.map enc t.args)))]),(stA [105,109,112,108,105,101,115]),(j3 2)] (j6 false),j5 62 [(.agg [(j3 t.kind),(stA t.np),(stA t.nn),(j3 t.val.kind),(stA t.val.num),(stA t.val.den),(stA t.val.sp),(stA t.val.sn),(stA t.val.text),(.dt (.row (List.map Ob.enc t.val.pair))),(.dt (.row (List.map enc t.args)))]),(stA [105,102,102]),(j3 2)] (j6 false)] func102 ⟨kY true,kY false,(ay t D5 1).b (K9 h),(ay t qF 2).b (K9 h2),(ay t Cs 2).b (K9 h3),Z⟩
end Go.Proofs.YtdkehabacmlegaaGreatDoor
namespace Go.Proofs.YtdkehabacmlegaaGreatDoor
open Go.Proofs.Tryz
open Go.RowKit
section
variable {X:Nat→Prop} {n0:Nat} {w0:World×Mm} {ok0:Nat→Prop} {M:Mm} {nt:Nat} {tm:Nat→AV} {bx:Nat→Option Bx} {a:Act} {w:World}
def Mm.Z4(M:Mm)(k:Nat):Mm:=⟨M.m,M.F,fun b=>if b=k then some (none,0,0) else M.o b⟩
theorem Mm.AR(M:Mm)(k:Nat):(M.Z4 k).o k=some (none,0,0):=if_pos rfl
theorem AU{X':Nat→Prop}{m0:Nat}{k:Nat}(hS:V7 X n0 M bx w)(hk:bx k=none):N8 X' m0 M w (M.Z4 k) w :=
 ⟨V3.refl _ _ _,fun _ _ _=>rfl,fun _ h _=>h,fun _ _ h=>h,fun b A n c h=>by
  by_cases e:b=k
  ·subst e;rw[hS.AB hk]at h;cases h
  ·exact⟨A,n,c,(if_neg e).trans h,Nat.le_refl _,fun _=>⟨rfl,rfl⟩⟩⟩
theorem FH{k:Nat}(hS:V7 X n0 M bx w)(le:n0≤w.heap.size)(hk:bx k=none)(e:TypeId)(kk:Nat):V7 X n0 (M.Z4 k) (V6 bx k (.buf e kk [])) w :=
 hS.upd (AU hS hk) le (fun _ hb=>⟨rfl,if_neg hb⟩) (fun _ _ _=>rfl) (fun q hq=>⟨hS.fz q hq,.inl hq⟩) ⟨none,0,0,M.AR k,Y9.nil _ _ _ _ _⟩
  (fun q ⟨n,c,hq⟩=>by rw[M.AR k]at hq;cases hq) (fun q hq=>by rw[show (M.Z4 k).m k=M.m k from rfl,hS.wG hk]at hq;cases hq)
theorem PQ{k:Nat}{v:Value}(h:RV M w .nil v):RV (M.Z4 k) w (.own k 0) v:=⟨none,0,none,0,0,h,M.AR k,Nat.le_refl _,fun _=>⟨rfl,rfl⟩⟩
theorem Inv.Z4(h:Inv X n0 w0 ok0 M nt tm bx a w){t k:Nat}(ht:tm t=.nil)(hk:bx k=none)(e:TypeId)(kk:Nat) :
  Inv X n0 w0 ok0 (M.Z4 k) nt (fun i=>if i=t then .own k 0 else tm i) (V6 bx k (.buf e kk [])) a w:=by
 have g:N8 X n0 M w (M.Z4 k) w:=AU h.H6 hk;refine⟨h.below,h.le,h.defers,h.size,fun i=>?_,FH h.H6 h.le hk e kk,h.src,h.gD.trans g⟩;by_cases hi:i=t
 ·subst hi;have hv:=h.tmps i;rw[ht]at hv;show RV _ _ (if i=i then _ else _) _;rw[if_pos rfl];exact PQ hv
 ·show RV _ _ (if i=t then _ else _) _;rw[if_neg hi];exact RV.go g _ _ (h.tmps i)
end
def Ty(E:En)(fn:Func)(args:List AV)(an:List An)(ls:List LA):Option (bv×List Prop):=match fn.body with
 |none=>none
 |some c=>match bz E c ⟨args++List.replicate (fn.ntmps - args.length) (.dt (.val undef)),[]⟩ an ls with
  |some (.out _,_)=>none
  |none=>none
  |some (_,s,ps,_,_)=>match jC E.P s fn.results.toList with
   |some [.X8 es]=>some (es,ps)
   |_=>none
theorem a7V{E:En}(hG:∀w w',E.G w→Below w.heap.size w w'→E.G w'){f:FuncId}{fn:Func}(hf:E.P.funcs[f]?=some fn)(hn:(fn.name == "runtime.NumGoroutine")=false)
  {args:List AV} {an:List An} {ls:List LA} {es:bv} {ps:List Prop} (h:Ty E fn args an ls=some (es,ps)) (hp:J4 ps):qj E.P E.G f args (.X8 es):=by
 unfold Ty at h;have key:∃c e s I8 ls',fn.body=some c∧bz E c ⟨args++List.replicate (fn.ntmps - args.length) (.dt (.val undef)),[]⟩ an ls=some (e,s,ps,I8,ls')∧(∀i,e≠.out i)∧jC E.P s fn.results.toList=some [.X8 es]:=by
  split at h
  ·cases h
  ·rename_i c hb;split at h
   ·cases h
   ·cases h
   ·rename_i e s ps' I8 ls' hne hc;split at h
    ·rename_i es' hcs;cases h;exact⟨c,e,s,I8,ls',hb,hc,fun i he=>by subst he;exact hne _ rfl,hcs⟩
    ·cases h
 obtain⟨c,e,s,I8,ls',hb,hc,hne,hcs⟩:=key;refine⟨⟨fn,hf,by rw[hb];rfl,hn⟩,fun ok w vs hw hargs=>?_⟩;obtain⟨hlen,yj⟩:=Aa hc hp;have hal:=hargs.len;refine calls_of_wp hf hb (wp_mono (yj (fun _=>False) w.heap.size (w,M0 fun b=>ok b∧b < w.heap.size) ok _ w ⟨fun w' hb=>hG w w' hw hb.below,fun _ _=>⟨rfl,rfl⟩⟩ ⟨M0 fun b=>ok b∧b < w.heap.size,?_⟩) ?_)
 ·have jD:∀b x,(AS.mk (args++List.replicate (fn.ntmps - args.length) (.dt (.val undef))) []).D7 b≠some x:=fun b x h=>by simp[AS.D7]at h
  refine⟨V3.refl _ _ _,Nat.le_refl _,rfl,?_,?_,⟨fun b x h=>absurd h (jD b x),fun b x _ h=>absurd h (jD b x),fun b _ x _ _ h=>absurd h (jD b x),(fun b g h=>by cases h),(fun b v h=>by cases h),fun b hb=>hb.2⟩,fun b hb _=>.inl hb.1,N8.refl _ _ _ _⟩
  ·simp[hal]
  ·intro t;have hargs':RL (M0 fun b=>ok b∧b < w.heap.size) w args vs:=RL.sO (fun b hb hl=>⟨hb,hl⟩) hargs;by_cases ht:t < args.length
   ·obtain⟨u,hu1,hu2⟩:=hargs'.get (i:=t) (c:=args[t]) (List.getElem?_eq_getElem ht);have e1:(AS.mk (args++List.replicate (fn.ntmps - args.length) (.dt (.val undef))) []).F9 t=args[t]:=by
     unfold AS.F9;simp[List.getElem?_append_left ht,ht]
    have e2:(vs.toArray++Array.replicate (fn.ntmps - vs.toArray.size) undef).getD t undef=u:=by
     have ht':t < vs.length:=J;simp only[Array.getD_eq_getD_getElem?];rw[Array.getElem?_append_left (by simpa using ht')];simp[hu1]
    rw[e1,e2];exact hu2
   ·have e1:(AS.mk (args++List.replicate (fn.ntmps - args.length) (.dt (.val undef))) []).F9 t=.dt (.val undef):=by
     unfold AS.F9;rw[List.getD_eq_getElem?_getD,List.getElem?_append_right J,List.getElem?_replicate];split <;> rfl
    have e2:(vs.toArray++Array.replicate (fn.ntmps - vs.toArray.size) undef).getD t undef=undef:=by
     simp only[Array.getD_eq_getD_getElem?];rw[Array.getElem?_append_right (by simp;omega),Array.getElem?_replicate];split <;> rfl
    rw[e1,e2];exact qb
 ·rintro x a' w' ⟨rfl,M,hI⟩;obtain⟨us,h1,u,Dc,rfl,⟨A,hA,hr⟩,hu2⟩:=wu hI hcs;obtain rfl:Dc=[]:=hu2;have hR:∃v,(results fn a'.tmps).run E.P w'=.ok v w'∧(fun e w'=>∃v,e=Ending.returned v∧Below w.heap.size w w'∧RV (M0 fun b=>ok b∨w.heap.size≤b) w' (.X8 es) v) (.returned v) w':=by
   refine⟨_,Ew h1,_,rfl,hI.below.below,A,hA,?_⟩;subst hA;refine hr.mono fun b hb _=>?_
   by_cases e:b < w.heap.size
   ·rcases hI.src b hb e with h | h
    ·exact .inl h
    ·exact h.elim
   ·exact .inr J
  cases e with
  |F4=>exact⟨hI.defers,hR⟩
  |ret=>exact⟨hI.defers,hR⟩
  |out i=>exact absurd rfl (hne i)
theorem y7.Z4{E:En}{c:Code}{s s':AS}{e:AE}(t:Nat)(T:TypeId)(kk:Nat)(hl:t < s.tm.length)(ht:s.F9 t=.nil)(h:y7 E c ⟨s.tm.set t (.own s.bx.length 0),s.bx++[some (.buf T kk [])]⟩ e s'):y7 E c s e s':=by
 obtain⟨h1,h2⟩:=h;have hlen:(s.tm.set t (.own s.bx.length 0)).length=s.tm.length:=List.length_set ..;refine⟨h1.trans hlen,fun X n0 w0 ok0 a w hG ⟨M,hI⟩=>?_⟩;have hb:s.D7 s.bx.length=none:=by unfold AS.D7;rw[List.getElem?_eq_none (Nat.le_refl _)]
 have hI2:=hI.Z4 ht hb T kk;have e1:(AS.mk (s.tm.set t (.own s.bx.length 0)) (s.bx++[some (.buf T kk [])])).F9=fun i=>if i=t then .own s.bx.length 0 else s.F9 i:=by
  funext i;unfold AS.F9;by_cases hi:i=t
  ·subst hi;simp[List.getD_eq_getElem?_getD,hl]
  ·simp[List.getD_eq_getElem?_getD,Ne.symm hi,hi]
 have e2:(AS.mk (s.tm.set t (.own s.bx.length 0)) (s.bx++[some (.buf T kk [])])).D7=V6 s.D7 s.bx.length (.buf T kk []):=by
  funext k;unfold AS.D7;by_cases hk:k=s.bx.length
  ·subst hk;simp
  ·simp only[if_neg hk];rcases Nat.lt_or_ge k s.bx.length with hlt | hge
   ·rw[List.getElem?_append_left hlt]
   ·rw[List.getElem?_eq_none (by simp;omega),List.getElem?_eq_none hge]
 have hL:Left X n0 w0 ok0 (AS.mk (s.tm.set t (.own s.bx.length 0)) (s.bx++[some (.buf T kk [])])).tm.length (AS.mk (s.tm.set t (.own s.bx.length 0)) (s.bx++[some (.buf T kk [])])).F9 (AS.mk (s.tm.set t (.own s.bx.length 0)) (s.bx++[some (.buf T kk [])])).D7 a w:=by
  rw[e1,e2,show (AS.mk (s.tm.set t (.own s.bx.length 0)) (s.bx++[some (.buf T kk [])])).tm.length=s.tm.length from hlen]
  exact⟨_,hI2⟩
 have:=h2 X n0 w0 ok0 a w hG hL;rw[show (AS.mk (s.tm.set t (.own s.bx.length 0)) (s.bx++[some (.buf T kk [])])).tm.length=s.tm.length from hlen]at this
 exact this
theorem y7.CZ{E:En}{c:Code}{s s':AS}{e:AE}(t b:Nat){T:TypeId}{kk:Nat}{es:bv}(htl:t < s'.tm.length)(hb:s'.bx[b]?=some (some (.buf T kk es)))(ht:s'.F9 t=.own b es.length)(h:y7 E c s e s'):y7 E c s e ⟨s'.tm.set t (.dt (.row es)),s'.bx.set b (some (.ak es))⟩:=by
 obtain⟨h1,h2⟩:=h;refine⟨(List.length_set ..).trans h1,fun X n0 w0 ok0 a w hG hL=>wp_mono (h2 X n0 w0 ok0 a w hG hL) ?_⟩;rintro x a' w' ⟨rfl,M,hI⟩;refine⟨rfl,?_⟩;have hbl:b < s'.bx.length:=(List.getElem?_eq_some_iff.1 hb).1;have hbf:s'.D7 b=some (.buf T kk es):=by unfold AS.D7;rw[hb]
 obtain⟨M',g,hS,hm,ho,hF⟩:=hI.H6.CZ hbf;have e1:(AS.mk (s'.tm.set t (.dt (.row es))) (s'.bx.set b (some (.ak es)))).F9=fun i=>if i=t then .dt (.row es) else s'.F9 i:=by
  funext i;unfold AS.F9;by_cases hi:i=t
  ·subst hi;simp[List.getD_eq_getElem?_getD,htl]
  ·simp[List.getD_eq_getElem?_getD,Ne.symm hi,hi]
 have e2:(AS.mk (s'.tm.set t (.dt (.row es))) (s'.bx.set b (some (.ak es)))).D7=V6 s'.D7 b (.ak es):=by
  funext k;unfold AS.D7;by_cases hk:k=b
  ·subst hk;simp[hbl]
  ·simp only[if_neg hk];rw[List.getElem?_set_ne (Ne.symm hk)]
 rw[e1,e2];refine⟨M',hI.below,hI.le,hI.defers,hI.size,fun i=>?_,hS,fun q hq hl=>?_,hI.gD.trans g⟩
 ·by_cases hi:i=t
  ·subst hi;have hv:=hI.tmps i;rw[ht]at hv;obtain⟨A,c1,A',n',c',hv1,hv2,hv3,hv4⟩:=hv;obtain⟨A2,n2,c2,k1,k2⟩:=hS.box b (.ak es) (if_pos rfl);rw[ho,hv2]at k1;cases k1;have hn:=k2.len;obtain⟨rfl,rfl⟩:=hv4 hn;show RV _ _ (if i=i then _ else _) _;rw[if_pos rfl,hv1,hn];exact k2
  ·show RV _ _ (if i=t then _ else _) _;rw[if_neg hi];exact RV.go g _ _ (hI.tmps i)
 ·rcases hF q hq with e | e | e
  ·exact hI.src q e hl
  ·omega
  ·exact .inr e
theorem aK.Z4{P:Program}{G:World→Prop}{f:FuncId}{args:List AV}{cs:List AV}{T:TypeId}{kk:Nat}{r:AV}{xs':List (Option Bx)}(h:aK P G f args [some (.cells (.own 1 0::cs)),some (.buf T kk [])] r xs'):aK P G f args [some (.cells (.nil::cs))] r xs':=by
 refine⟨h.1,fun X M w vs hG hS hargs=>?_⟩;have hk:lk [some (.cells (.nil::cs))] 1=none:=rfl;have g:N8 X w.heap.size M w (M.Z4 1) w:=AU hS hk;have hS2:=FH hS (Nat.le_refl _) hk T kk;have hb0:V6 (lk [some (.cells (.nil::cs))]) 1 (.buf T kk []) 0=some (.cells (.nil::cs)):=rfl;have far:∀b,V6 (lk [some (.cells (.nil::cs))]) 1 (.buf T kk []) (b+2)=none:=fun b=>by
  show (if b+2=1 then _ else _)=_;rw[if_neg J];rfl
 have e0:∀b x,b≠0→lk [some (.cells (.own 1 0::cs)),some (.buf T kk [])] b=some x→V6 (lk [some (.cells (.nil::cs))]) 1 (.buf T kk []) b=some x:=by
  intro b x hb hx
  match b,hb with
  |1,_=>exact hx
  |b+2,_=>simp[lk]at hx
 have old:∀b x q,lk [some (.cells (.own 1 0::cs)),some (.buf T kk [])] b=some x→Hx (M.Z4 1) b x q→∃y,V6 (lk [some (.cells (.nil::cs))]) 1 (.buf T kk []) b=some y∧Hx (M.Z4 1) b y q:=by
  intro b x q hx hq;by_cases hb:b=0
  ·subst hb;cases hx;exact⟨_,hb0,hq⟩
  ·exact⟨x,e0 b x hb hx,hq⟩
 have hS3:V7 X w.heap.size (M.Z4 1) (lk [some (.cells (.own 1 0::cs)),some (.buf T kk [])]) w:=by
  refine⟨fun b x hx=>?_,fun b x q hx hq=>?_,fun b b' x x' q h1 h2 h3 h4=>?_,fun b q hq=>?_,fun b v hv=>?_,hS2.fz⟩
  ·by_cases hb:b=0
   ·subst hb;cases hx;obtain⟨gg,T',us,k1,k2,u,Dc,rfl,k3,k4⟩:=hS2.box 0 _ hb0;exact⟨gg,T',_,k1,k2,u,Dc,rfl,⟨none,0,none,0,0,k3,M.AR 1,Nat.le_refl _,fun _=>⟨rfl,rfl⟩⟩,k4⟩
   ·exact hS2.box b x (e0 b x hb hx)
  ·obtain⟨y,h1,h2⟩:=old b x q hx hq;exact hS2.dom b y q h1 h2
  ·obtain⟨y,k1,k2⟩:=old b x q h1 h3;obtain⟨y',k1',k2'⟩:=old b' x' q h2 h4;exact hS2.inj b b' y y' q k1 k1' k2 k2'
  ·obtain⟨x,h1,h2⟩:=hS2.hm b q hq
   match b,h1 with
   |0,_=>exact⟨_,rfl,rfl⟩
   |1,h1=>exact⟨x,h1,h2⟩
   |b+2,h1=>rw[far b]at h1;cases h1
  ·have h1:=hS2.ho b v hv
   match b,h1 with
   |0,_=>rfl
   |1,_=>rfl
   |b+2,h1=>rw[far b]at h1;cases h1
 refine (h.2 X (M.Z4 1) w vs hG hS3 (RL.go g _ _ hargs)).mono fun e w' ⟨v,M',h1,h2,h3,h4,h5⟩=>⟨v,M',h1,g.trans h2,h3,fun b hb=>h4 b hb,h5⟩
end Go.Proofs.YtdkehabacmlegaaGreatDoor
namespace Go.Proofs.YtdkehabacmlegaaGreatDoor
open Go.Proofs.Tryz
open Go.RowKit
open Te
abbrev K4(l:List Te):bv:=l.map Te.enc
abbrev J8(cs:bv)(ex er:Int):List (Option Bx):=[some (.cells [.own 1 cs.length,j3 ex,j3 er]),some (.buf 35 1 cs)]
abbrev I6(s:NS):List (Option Bx):=J8 (s.out.map kG) s.ex s.er
theorem qm(l:List Te):L6 11 (K4 l):=by
 intro x hx;obtain⟨t,_,rfl⟩:=List.mem_map.1 hx;rw[xB];refine⟨rfl,fun d hd=>?_⟩;simp only[List.mem_cons,List.not_mem_nil,or_false]at hd;rcases hd with rfl | rfl | rfl | rfl | rfl | rfl | rfl | rfl | rfl | rfl | rfl <;> rfl
theorem sZ(t:Te):L6 11 [p9 t]:=gW t ▸ qm [t]
theorem a7W(d:bv):L6 1 [[.row d]]:=by
 intro x hx;rw[List.mem_singleton]at hx;subst hx;exact⟨rfl,fun d hd=>by rw[List.mem_singleton]at hd;subst hd;rfl⟩
theorem bG{b n:Nat}(hb:b≤200)(h:n≤1000000):P9 b n:=⟨by show n≤2 ^ 63 - 1;omega,by
 have:=Nat.mul_le_mul h hb;omega⟩
abbrev kN(qs ms:List Te)(cs:bv)(ex er:Int)(es:bv)(i:Int):AS:=⟨stt 48 [(0,.ptr 0 0),(2,D9 ms),(6,.own 2 es.length),(9,D9 qs),(10,j3 qs.length),(11,j3 i)],J8 cs ex er++[some (.buf 50 11 es)]⟩
noncomputable abbrev Dn:Code:=M9 (P6 f101) [1,0,1,0,0]
theorem b0v{qs ms:List Te}{x y:Te}{i:Nat}{es cs:bv}{ex er:Int}(hx:qs[i]?=some x)(hl:qs.length≤100000)(he:es.length≤100000)(h:j5 31 [o7 x] (o7 y)):y7 (J5 2) Dn (kN qs ms cs ex er es i) .F4 (kN qs ms cs ex er (es++[p9 y]) ((i+1:Nat):Int)) :=
 tW [yT,.av (.pin ((p9 x).map .dt)),.av (o7 y),.av (.un),.av (j3 ((i+1:Nat):Int))] [] [0,2,6,9,10,11] 3 [Bt .lss 3 11 10 ↑i ↑qs.length bT,z8 (List.map Te.enc qs) ↑i 11 (p9 x),j5 31 [(o7 x)] (o7 y),(es.length)=(es.length),P9 176 ((es++[p9 y]).length),L6 11 [p9 y],Bk .add 3 11 1 ↑i (vi (↑(i+1)))]     ⟨C9 (decide_eq_true (by have:=(List.getElem?_eq_some_iff.1 hx).1;omega)),L8 hx,h,rfl,bG J (by simp;omega),sZ y,I4 J J (by have:=(List.getElem?_eq_some_iff.1 hx).1;omega),Z⟩
theorem b0w{qs ms:List Te}{i:Nat}{es cs:bv}{ex er:Int}(hi:i=qs.length):y7 (J5 2) Dn (kN qs ms cs ex er es i) (.out 0) (kN qs ms cs ex er es i) :=
 tW [yF] [] [0,2,6,9,10,11] 3 [Bt .lss 3 11 10 ↑i ↑qs.length bF]     ⟨C9 (decide_eq_false J),Z⟩
theorem a3n{qs ms:List Te}{cs:bv}{ex er:Int}(hl:qs.length≤100000):∀(s:List Te) (i:Nat) (es:bv),qs.drop i=s→i≤qs.length→es.length=i→J7 (J5 2) Dn (kN qs ms cs ex er es i) (.out 0) (kN qs ms cs ex er (es++K4 (s.map neg)) qs.length):=by
 intro s
 induction s with
 |nil =>
  intro i es hd hi he;have e1:=congrArg List.length hd;rw[List.length_drop,List.length_nil]at e1;obtain rfl:i=qs.length:=J;rw[List.map_nil,show K4 []=[] from rfl,List.append_nil]
  exact .stop (b0w rfl) (fun h=>by cases h)
 |cons x s ih =>
  intro i es hd hi he;have hx:qs[i]?=some x:=by rw[←List.head?_drop,hd];rfl
  have hlt:=(List.getElem?_eq_some_iff.1 hx).1;have:=ih (i+1) (es++[p9 (neg x)]) (by rw[←List.drop_drop,hd];rfl) J (by simp[he]);rw[List.append_assoc]at this;have e:[p9 (neg x)]++K4 (s.map neg)=K4 ((x::s).map neg):=by rw[gW];rfl
  rw[e]at this;exact .more (b0v hx hl J (xD x)) this
theorem a5Q{qs ms:List Te}{cs:bv}{ex er:Int}(hl:qs.length≤100000):y7 (J5 2) (.loop Dn) ⟨stt 48 [(0,.ptr 0 0),(2,D9 ms),(6,.nil),(9,D9 qs),(10,j3 qs.length),(11,j3 0)],J8 cs ex er⟩ (.out 0) (kN qs ms cs ex er (K4 (qs.map neg)) qs.length):=by
 have h:=(a3n (ms:=ms) (cs:=cs) (ex:=ex) (er:=er) hl qs 0 [] rfl (Nat.zero_le _) rfl).K3;exact y7.Z4 6 50 11 (by show 6 < 48;omega) rfl h
theorem a3o(qs:List Te):(K4 (qs.map neg)).length=qs.length:=by simp[K4]
theorem a5R(s:NS)(qs ms:List Te)(hl:qs.length≤100000)(hm:ms.length≤1000)(ho:s.out.length≤400):C8 101 [.ptr 0 0,D9 qs,D9 ms] (I6 s) (.l7 []) (I6 (s.fail id (qs.map neg++ms))):=by
 obtain⟨out,ex,er⟩:=s;dsimp only at ho;have ht:=a5Q (ms:=ms) (cs:=out.map kG) (ex:=ex) (er:=er) hl;have hlen:=a3o qs;have hc:(qs.map neg++ms).length=(K4 (qs.map neg)).length+ms.length:=by rw[hlen];simp
 have happ:K4 (qs.map neg)++K4 ms=K4 (qs.map neg++ms):=List.map_append.symm;unfold NS.fail;rw[id,hc];generalize K4 (qs.map neg)=es at *;have hsz:((es.length+ms.length:Nat):Int)=((es++List.map Te.enc ms).length:Int):=by rw[List.length_append,List.length_map]
 by_cases h1:60 < es.length+ms.length
 ·rw[if_pos (.inl h1)];generalize out.map kG=cs at *;exact sW 2 [0,1] [.av (j3 qs.length),.av (.un),.av (j3 (es.length+ms.length:Nat)),yT] [.inv [0,2,6,9,10,11] 2 (.out 0) (kN qs ms cs ex er es qs.length)] [(vi ↑qs.length)=(vi (↑(List.map Te.enc qs).length)),_,(es.length)=(es.length),P9 176 ((es++List.map Te.enc ms).length),L6 11 (List.map Te.enc ms),(vi (↑(es.length+ms.length)))=(vi (↑(es++List.map Te.enc ms).length)),Bk .gtr 3 25 60 (↑(es.length+ms.length)) bT] func101 ⟨H7 _,ht,rfl,bG J (by rw[←Int.natCast_inj.1 hsz];omega),qm ms,congrArg _ hsz,Q0 (decide_eq_true J),Z⟩
 have hout:(out.map kG).length=out.length:=List.length_map ..;have hadd:(out++[qs.map neg++ms]).map kG=out.map kG++[[.row (K4 (qs.map neg++ms))]]:=by rw[List.map_append];rfl
 rw[←happ]at hadd;by_cases h2:400≤out.length
 ·rw[if_pos (.inr h2)];generalize out.map kG=cs at *;exact sW 2 [0,1] [.av (j3 qs.length),.av (.un),.av (j3 (es.length+ms.length:Nat)),yF,.no,yT] [.inv [0,2,6,9,10,11] 2 (.out 0) (kN qs ms cs ex er es qs.length)] [(vi ↑qs.length)=(vi (↑(List.map Te.enc qs).length)),_,(es.length)=(es.length),P9 176 ((es++List.map Te.enc ms).length),L6 11 (List.map Te.enc ms),(vi (↑(es.length+ms.length)))=(vi (↑(es++List.map Te.enc ms).length)),Bk .gtr 3 25 60 (↑(es.length+ms.length)) bF,Bk .geq 3 32 400 ↑cs.length bT] func101 ⟨H7 _,ht,rfl,bG J (by rw[←Int.natCast_inj.1 hsz];omega),qm ms,congrArg _ hsz,Q0 (decide_eq_false J),R7 (decide_eq_true J),Z⟩
 ·rw[if_neg (fun h=>h.elim h1 h2)];show C8 _ _ _ _ (J8 ((out++[qs.map neg++ms]).map kG) ex er);rw[hadd];generalize out.map kG=cs at *;exact sW 2 [0,1] [.av (j3 qs.length),.av (.un),.av (j3 (es.length+ms.length:Nat)),yF,.no,yF,.av (.un)] [.inv [0,2,6,9,10,11] 2 (.out 0) (kN qs ms cs ex er es qs.length)] [(vi ↑qs.length)=(vi (↑(List.map Te.enc qs).length)),_,(es.length)=(es.length),P9 176 ((es++List.map Te.enc ms).length),L6 11 (List.map Te.enc ms),(vi (↑(es.length+ms.length)))=(vi (↑(es++List.map Te.enc ms).length)),Bk .gtr 3 25 60 (↑(es.length+ms.length)) bF,Bk .geq 3 32 400 ↑cs.length bF,((es++List.map Te.enc ms).length)=((es++List.map Te.enc ms).length),(cs.length)=(cs.length),P9 24 ((cs++[[Dt.row (es++List.map Te.enc ms)]]).length),L6 1 [[(.row (es++List.map Te.enc ms))]]] func101 ⟨H7 _,ht,rfl,bG J (by rw[←Int.natCast_inj.1 hsz];omega),qm ms,congrArg _ hsz,Q0 (decide_eq_false J),R7 (decide_eq_false J),rfl,rfl,bG J (by simp;omega),a7W _,Z⟩
end Go.Proofs.YtdkehabacmlegaaGreatDoor
