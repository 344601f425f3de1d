/- Numbers, names and tokens of the reference's reader. -/
import Derived.Test.YthhknjlmjefklaaGreatDoorBL
import Derived.Test.YthhknjlmjefklaaGreatDoorBK
import Derived.Test.YthhknjlmjefklaaGreatDoorBG
namespace Go.Proofs.YthhknjlmjefklaaGreatDoor
open Go.Proofs.Tryz
open Go.RowKit
theorem b3a:l7 184 [stA [48]] (.o7 [stA [48],stA [49],o6 true]) :=
 pW (nK 17 []) [.run 2] [] func184 trivial
theorem b3b:l7 184 [stA [49]] (.o7 [stA [49],stA [49],o6 true]) :=
 pW (nK 17 []) [.run 2] [] func184 trivial
theorem b3c:l7 184 [stA [45,49]] (.o7 [stA [45,49],stA [49],o6 true]) :=
 pW (nK 17 []) [.run 2] [] func184 trivial
theorem b3d{w:aa0}{c:UInt8}(hc:w[0]?=some c)(h45:(c == 45)=false)(hd:y8.dm c=false)(hl:w.length≤6000):l7 184 [stA w] (.o7 [stA [],stA [],o6 false]):=by
 have hlt:=(Pi.1 hc).1;have hix:jL ⟨w.toArray⟩ 0 (.int .u8 (c.toNat:Int)):=oI hc;unfold y8.dm at hd;cases h1:decide (48≤c.toNat) with
 |false=>exact pW [.av (inA w.length),yT,.av (iK c),yF,.av (inA w.length),yT,.av (iK c),yF,.no] [.run 1] [(vi ↑w.length)=(vi (↑w.length)),Bk .gtr 3 9 0 ↑w.length bT,_,Bu .eql 5 13 45 ↑c.toNat bF,(vi ↑w.length)=(vi (↑w.length)),Bt .lss 3 17 19 0 ↑w.length bT,_,Bu .geq 5 24 48 ↑c.toNat bF] func184 ⟨gU _,dA (UV J),hix,F6 (X9 rfl h45),gU _,F8 (UV J),hix,Z7 (by rw[←h1,Zam];omega),Z⟩
 |true =>
  rw[h1,Zbq]at hd;exact pW [.av (inA w.length),yT,.av (iK c),yF,.av (inA w.length),yT,.av (iK c),yT,.av (iK c),yF,.no] [.run 1] [(vi ↑w.length)=(vi (↑w.length)),Bk .gtr 3 9 0 ↑w.length bT,_,Bu .eql 5 13 45 ↑c.toNat bF,(vi ↑w.length)=(vi (↑w.length)),Bt .lss 3 17 19 0 ↑w.length bT,_,Bu .geq 5 24 48 ↑c.toNat bT,_,Bu .leq 5 30 57 ↑c.toNat bF] func184 ⟨gU _,dA (UV J),hix,F6 (X9 rfl h45),gU _,F8 (UV J),hix,Z7 (by rw[←h1,Zam];omega),hix,jq (by rw[←hd,Zam];omega),Z⟩
theorem a8u:l7 185 [stA [48]] (stA [48]):=pW (nK 13 []) [.run 2] [] func185 trivial
theorem Oz:l7 185 [stA [49]] (stA [49]):=pW (nK 13 []) [.run 2] [] func185 trivial
theorem a8v:l7 185 [stA [45,49]] (stA [45,49]):=pW (nK 10 [.av (stA [49]),.av (stA [45,49])]) [.run 2] [Aw ⟨#[45,49]⟩ (1:Int) (2:Int) (str [49]),Bn .add 9 (.const (str [45])) (.tmp 33) (str [45]) (str [49]) (str [45,49])] func185 ⟨⟨O,O,O,by rw[Lib.extract_eq];rfl⟩,Hz (a:=[45]) (b:=[49]) O,Z⟩
abbrev tokA(t:y8.Tok):AV:=.agg [inA t.kind,inA t.pos,stA [],stA t.text,stA t.den]
abbrev dI(t:y8.Tok):List Dt:=[.val (.int .i64 t.kind),.val (.int .i64 (t.pos:Int)),.val (str []),.val (str t.text),.val (str t.den)]
abbrev bY:AV:=.agg [inA 0,inA 0]
theorem b0y{k:Int}{i:Nat}{w:aa0}(h:w.length≤40):l7 180 [.agg [inA k,inA i,stA [],stA w,stA []],o6 false] bY :=
 pV [.av (inA w.length),yF,yF] [(vi ↑w.length)=(vi (↑w.length)),Bk .gtr 3 8 40 ↑w.length bF,Bl .neq 9 22 [] [] bF] func180 ⟨gU _,dA (WF J),OT rfl,Z⟩
theorem b3e{s:aa0}{i:Nat}(hc:s[i]?=some 40)(hl:s.length≤6000):l7 125 [stA s,inA i] (.o7 [tokA ⟨1,i,[],[]⟩,inA ((i+1:Nat):Int),bY]) :=
 pV [.av (.dt (.val (.int .u8 40))),yT,.av (inA ((i+1:Nat):Int))] [jL ({ data:=s.toArray:ByteArray }) ↑i (Value.int .u8 40),Bu .eql 5 21 40 40 bT,Bk .add 3 25 1 ↑i (vi (↑(i+1)))] func125 ⟨oI (c:=40) hc,F6 rfl,N8 J J (by have:=(Pi.1 hc).1;omega),Z⟩
theorem b3f{s:aa0}{i:Nat}(hc:s[i]?=some 41)(hl:s.length≤6000):l7 125 [stA s,inA i] (.o7 [tokA ⟨2,i,[],[]⟩,inA ((i+1:Nat):Int),bY]) :=
 pV [.av (.dt (.val (.int .u8 41))),yF,yT,.av (inA ((i+1:Nat):Int))] [jL ({ data:=s.toArray:ByteArray }) ↑i (Value.int .u8 41),Bu .eql 5 21 40 41 bF,Bu .eql 5 29 41 41 bT,Bk .add 3 33 1 ↑i (vi (↑(i+1)))] func125 ⟨oI (c:=41) hc,F6 rfl,F6 rfl,N8 J J (by have:=(Pi.1 hc).1;omega),Z⟩
theorem RF{a b x y:aa0}(ha:a.length≤1000)(hb:b.length≤1000)(hx:Lib.itoa (bu (l9.D5 a) (l9.D5 b))=x)(hy:Lib.itoa (bz (l9.D5 a) (l9.D5 b))=y):l7 72 [stA a,stA b] (.o7 [stA x,stA y]) :=
 ⟨V8 func72 rfl (by kernel_rfl),fun ok w vs _ hv=>by
  obtain⟨u,us,rfl,h1,h2⟩:=hv;obtain rfl:=RL.iD h2;rw[Rd.Z9 h1];refine (MP a b w J J).mono ?_;rintro e w' ⟨rfl,h⟩;rw[hx,hy];exact⟨_,rfl,h,_,rfl,_,_,rfl,.val _,_,_,rfl,.val _,rfl⟩⟩
theorem IW{l:aa0}{k:Nat}(hl:l.length≤1000)(hk:(l9.mag (norm l)).length=k):l7 186 [stA l] (inA (k:Int)) :=
 ⟨V8 func186 rfl (by kernel_rfl),fun ok w vs _ hv=>by
  obtain rfl:=RL.iD hv;refine (MN l w J).mono ?_;rintro e w' ⟨rfl,h⟩;rw[hk];exact⟨_,rfl,h,.val _⟩⟩
theorem qi{c k:UInt8}(h:(c == k)=false):decide ((c.toNat:Int)=(k.toNat:Int))=false:=X9 rfl h
theorem a0i{c:UInt8}(h:y8.cst c=true):(c == 40)=false∧(c == 41)=false∧(c == 39)=false∧(c == 34)=false∧(c == 124)=false:=by
 unfold y8.cst at h;simp only[AC,Za3,Bool.not_eq_true']at h;obtain⟨⟨⟨⟨⟨⟨⟨⟨_,_⟩,h3⟩,h4⟩,h5⟩,h6⟩,_⟩,h8⟩,_⟩:=h;exact⟨h3,h4,h5,h6,h8⟩
theorem a1C{s w:aa0}{i e:Nat}(hw:(s.drop i).takeWhile y8.cst=w)(he:i+w.length=e)(hl:e≤s.length):Aw ⟨s.toArray⟩ (i:Int) (e:Int) (str w):=by
 have hp:(s.drop i).takeWhile y8.cst <+: s.drop i:=List.takeWhile_prefix _;rw[hw]at hp;have e2:w=(s.drop i).take w.length:=(List.prefix_iff_eq_take.1 hp);refine⟨J,J,?_,?_⟩
 ·show (e:Int)≤((s.toArray.size:Nat):Int);simpa using hl
 ·rw[Lib.extract_eq,Int.toNat_natCast,Int.toNat_natCast];congr 3;rw[e2,←he,Nat.add_sub_cancel_left]
theorem b3g{s w:aa0}{i e:Nat}{c:UInt8}(hc:s[i]?=some c)(hl:s.length≤6000)(kF:y8.cst c=true)(hw:(s.drop i).takeWhile y8.cst=w)(he:i+w.length=e)(vK:∀c∈s,(c == 58)=false)(hn:l7 184 [stA w] (.o7 [stA [],stA [],o6 false]))(h46:w≠[46])(lM:w.length≤40):l7 125 [stA s,inA i] (.o7 [tokA ⟨6,i,w,[]⟩,inA e,bY]):=by
 obtain⟨n1,n2,n3,n4,n5⟩:=a0i kF;have hi:=(Pi.1 hc).1;have hwd:=a0g hl (i:=i) J;rw[hw,he]at hwd;have Ur:e≤s.length:=by
  have:=y8.yN y8.cst (s.drop i);rw[hw,Za7]at this;omega
 exact pV [.av (iK c),yF,yF,yF,yF,yF,yT,.av (inA e),.av (stA w),yF,.av (.o7 [stA [],stA [],o6 false]),yF,.av (bY)] [jL ({ data:=s.toArray:ByteArray }) ↑i (Value.int .u8 ↑c.toNat),Bu .eql 5 21 40 ↑c.toNat bF,Bu .eql 5 29 41 ↑c.toNat bF,Bu .eql 5 37 39 ↑c.toNat bF,Bu .eql 5 45 34 ↑c.toNat bF,Bu .eql 5 73 124 ↑c.toNat bF,l7 181 [(.dt (.val (Value.int .u8 ↑c.toNat)))] (o6 true),_,Aw ({ data:=s.toArray:ByteArray }) ((some ↑i).getD 0) ((some ↑e).getD ↑{ data:=s.toArray:ByteArray }.size) (str w),l7 178 [(stA s),(inA ↑e),(.dt (.val (Value.int .u8 58))),(.dt (.val (Value.int .u8 58)))] (o6 false),_,Bl .eql 9 131 [46] w bF,l7 180 [(.agg [(inA 6),(inA ↑i),(stA []),(stA w),(stA [])]),(o6 false)] (.agg [(inA 0),(inA 0)])] func125 ⟨oI hc,F6 (qi n1),F6 (qi n2),F6 (qi n3),F6 (qi n4),F6 (qi n5),kF ▸ JB c,hwd,a1C hw he Ur,Ql (a:=58) (b:=58) hl J vK,hn,L6 (WF h46),b0y lM,Z⟩
theorem Qm{s w:aa0}{i e:Nat}{c:UInt8}(hc:s[i]?=some c)(hl:s.length≤6000)(kF:y8.cst c=true)(hw:(s.drop i).takeWhile y8.cst=w)(he:i+w.length=e)(vK:∀c∈s,(c == 58)=false)(hn:l7 184 [stA w] (.o7 [stA w,stA [49],o6 true]))(hp:l7 185 [stA w] (stA w))(hr:l7 72 [stA w,stA [49]] (.o7 [stA w,stA [49]]))(hd:l7 186 [stA w] (inA 1))(hd1:l7 186 [stA [49]] (inA 1))(h46:w≠[46]):l7 125 [stA s,inA i] (.o7 [tokA ⟨5,i,w,[49]⟩,inA e,bY]):=by
 obtain⟨n1,n2,n3,n4,n5⟩:=a0i kF;have hi:=(Pi.1 hc).1;have hwd:=a0g hl (i:=i) J;rw[hw,he]at hwd;have Ur:e≤s.length:=by
  have:=y8.yN y8.cst (s.drop i);rw[hw,Za7]at this;omega
 exact pV [.av (iK c),yF,yF,yF,yF,yF,yT,.av (inA e),.av (stA w),yF,.av (.o7 [stA w,stA [49],o6 true]),yF,.av (stA [49]),yF,.av (stA w),.av (stA [49]),.av (.o7 [stA w,stA [49]]),.av (inA 1),yF,.av (inA 1),yF] [jL ({ data:=s.toArray:ByteArray }) ↑i (Value.int .u8 ↑c.toNat),Bu .eql 5 21 40 ↑c.toNat bF,Bu .eql 5 29 41 ↑c.toNat bF,Bu .eql 5 37 39 ↑c.toNat bF,Bu .eql 5 45 34 ↑c.toNat bF,Bu .eql 5 73 124 ↑c.toNat bF,l7 181 [(.dt (.val (Value.int .u8 ↑c.toNat)))] (o6 true),_,Aw ({ data:=s.toArray:ByteArray }) ((some ↑i).getD 0) ((some ↑e).getD ↑{ data:=s.toArray:ByteArray }.size) (str w),l7 178 [(stA s),(inA ↑e),(.dt (.val (Value.int .u8 58))),(.dt (.val (Value.int .u8 58)))] (o6 false),_,Bl .eql 9 131 [46] w bF,_,Bl .eql 9 137 [48] [49] bF,_,_,_,_,Bk .gtr 3 156 100 1 bF,_,Bk .gtr 3 161 100 1 bF] func125 ⟨oI hc,F6 (qi n1),F6 (qi n2),F6 (qi n3),F6 (qi n4),F6 (qi n5),kF ▸ JB c,hwd,a1C hw he Ur,Ql (a:=58) (b:=58) hl J vK,hn,L6 (WF h46),Oz,L6 O,hp,Oz,hr,hd,dA O,hd1,dA O,Z⟩
structure FH (s:aa0):Prop where
 len:s.length≤6000
 few:∀c∈s,y8.few c=true
theorem DL{c:UInt8}(h:y8.few c=true):(c == 59)=false∧(c == 35)=false∧(c == 58)=false:=by
 have ne:∀k:UInt8,y8.few k=false→(c == k)=false:=fun k hk=>by
  rw[IR];intro e;rw[e,hk]at h;cases h
 exact⟨ne 59 O,ne 35 O,ne 58 O⟩
theorem b0z{c:UInt8}(h:y8.few c=true)(hb:y8.blk c=false)(lM:c≠40)(sK:c≠41):y8.cst c=true:=by
 unfold y8.few at h;rw[hb,IR.2 lM,IR.2 sK]at h;simp only[Bool.false_or,AC]at h;exact h.1.1.1
theorem a7f{s:aa0}(hs:FH s){i:Nat}{c:UInt8}(hc:s[i]?=some c)(kF:y8.cst c=true)(hok:y8.vJ ((s.drop i).takeWhile y8.cst)=true):l7 125 [stA s,inA i] (.o7 [tokA (y8.EN i ((s.drop i).takeWhile y8.cst)),inA ((i+((s.drop i).takeWhile y8.cst).length:Nat):Int),bY]):=by
 have vK:∀c∈s,(c == 58)=false:=fun c hc=>(DL (hs.few c hc)).2.2
 generalize hw:(s.drop i).takeWhile y8.cst=w at *;unfold y8.vJ at hok;unfold y8.EN;cases hn:y8.isNum w with
 |true =>
  rw[Za0 rfl];rw[hn,Za0 rfl]at hok;simp only[Bool.or_eq_true,beq_iff_eq]at hok;have d1:l7 186 [stA [49]] (inA 1):=IW (k:=1) O (by decide +kernel);rcases hok with (rfl | rfl) | rfl
  ·exact Qm hc hs.len kF hw rfl vK b3a a8u (RF O O (by decide +kernel) (by decide +kernel)) (IW (k:=1) O (by decide +kernel)) d1 O
  ·exact Qm hc hs.len kF hw rfl vK b3b Oz (RF O O (by decide +kernel) (by decide +kernel)) (IW (k:=1) O (by decide +kernel)) d1 O
  ·exact Qm hc hs.len kF hw rfl vK b3c a8v (RF O O (by decide +kernel) (by decide +kernel)) (IW (k:=1) O (by decide +kernel)) d1 O
 |false =>
  rw[lw O];rw[hn,lw O]at hok;simp only[AC,Za3,Bool.not_eq_true',IR]at hok;obtain⟨⟨lM,hh⟩,h46⟩:=hok;cases w with
  |nil=>cases hh
  |cons d r =>
   simp only[AC,Bool.not_eq_true']at hh;exact b3g hc hs.len kF hw rfl vK (b3d (c:=d) rfl hh.1 hh.2 J) h46 lM
abbrev JC(l:List y8.Tok):AV:=.dt (.row (l.map dI))
abbrev Ld(s:aa0)(es:aa1)(i:Int):AS:=⟨stt 53 [(0,stA s),(3,.ptr 0 0),(4,.own 1 es.length),(5,inA i)],[some (.cells [inA 0,inA 0]),some (.buf 166 5 es)]⟩
abbrev Le(es:aa1):AS:=⟨stt 53 [(2,.own 1 es.length),(3,.ptr 0 0)],[some (.cells [inA 0,inA 0]),some (.buf 166 5 es)]⟩
noncomputable abbrev Lh:Code:=V5 (ai f98) [1,1,1,1,0,0]
theorem YT(t:y8.Tok):S9 5 [dI t]:=by
 intro x hx;rw[ut]at hx;subst hx;refine⟨rfl,fun d hd=>?_⟩;simp only[Zao,ZaO,or_false]at hd;rcases hd with rfl | rfl | rfl | rfl | rfl <;> rfl
theorem Tc{s:aa0}{es:aa1}{i n e:Nat}{t:y8.Tok}(h1:l7 124 [stA s,inA i] (.o7 [inA n,o6 true]))(hn:n < s.length)(h2:l7 125 [stA s,inA n] (.o7 [tokA t,inA e,bY]))(he:es.length≤10000):D7 EX Lh (Ld s es i) .I4 (Ld s (es++[dI t]) e) :=
 tW [.av (.o7 [inA n,o6 true]),.av (inA s.length),yF,.av (.o7 [tokA t,inA e,bY]),.no,.av (.un)] [] [0,3,4,5] 2 [l7 124 [(stA s),(inA ↑i)] (.o7 [(inA ↑n),(o6 true)]),(vi ↑s.length)=(vi (↑s.length)),Bt .geq 3 26 28 ↑n ↑s.length bF,l7 125 [(stA s),(inA ↑n)] (.o7 [(.agg [(inA t.kind),(inA ↑t.pos),(stA []),(stA t.text),(stA t.den)]),(inA ↑e),(.agg [(inA 0),(inA 0)])]),(es.length)=(es.length),X8 64 ((es++[[Dt.val (vi t.kind),Dt.val (vi ↑t.pos),Dt.val (str []),Dt.val (str t.text),Dt.val (str t.den)]]).length),S9 5 [[(.val (vi t.kind)),(.val (vi ↑t.pos)),(.val (str [])),(.val (str t.text)),(.val (str t.den))]]]     ⟨h1,gU _,Z7 (WF J),h2,rfl,ig J (by simp;omega),YT t,Z⟩
theorem a2G{s:aa0}{es:aa1}{i n:Nat}(h1:l7 124 [stA s,inA i] (.o7 [inA n,o6 true]))(hn:s.length≤n)(he:es.length≤10000):D7 EX Lh (Ld s es i) .ret (Le (es++[dI ⟨0,s.length,[],[]⟩])) :=
 tW [.av (.o7 [inA n,o6 true]),.av (inA s.length),yT,.av (inA s.length),.av (.un)] [] [2,3] 2 [l7 124 [(stA s),(inA ↑i)] (.o7 [(inA ↑n),(o6 true)]),(vi ↑s.length)=(vi (↑s.length)),Bt .geq 3 26 28 ↑n ↑s.length bT,(vi ↑s.length)=(vi (↑s.length)),(es.length)=(es.length),X8 64 ((es++[[Dt.val (vi 0),Dt.val (vi ↑s.length),Dt.val (Value.string { data:=#[]:ByteArray }),Dt.val (Value.string { data:=#[]:ByteArray }),Dt.val (Value.string { data:=#[]:ByteArray })]]).length),S9 5 [[(.val (vi 0)),(.val (vi ↑s.length)),(.val (str [])),(.val (str [])),(.val (str []))]]]     ⟨h1,gU _,Z7 (UV J),gU _,rfl,ig J (by simp;omega),YT ⟨0,s.length,[],[]⟩,Z⟩
theorem b0A{s:aa0}(hs:FH s):∀(N:Nat) (r:aa0) (i:Nat) (es:aa1),r.length≤N→s.drop i=r→i≤s.length→(∀t∈y8.tk i r,t.kind=5∨t.kind=6→y8.vJ t.text=true)→es.length+r.length≤9000→Lps EX Lh (Ld s es i) .ret (Le (es++(y8.tk i r).map dI)):=by
 intro N
 induction N with
 |zero =>
  intro r i es hN hd hi hok hl;obtain rfl:r=[]:=Za9 J;have e1:=congrArg List.length hd;rw[Za7,List.length_nil]at e1;have h1:=a0h hs.len (fun c hc=>(DL (hs.few c hc)).1) (fun c hc=>(DL (hs.few c hc)).2.1) hi;rw[hd]at h1;rw[y8.a0c,show i=s.length by omega]
  rw[show i=s.length by omega]at h1
  exact .stop (a2G h1 (NE _) J) (fun h=>by cases h)
 |succ N ih =>
  intro r i es hN hd hi hok hl;have h1:=a0h hs.len (fun c hc=>(DL (hs.few c hc)).1) (fun c hc=>(DL (hs.few c hc)).2.1) hi;rw[hd]at h1;rw[y8.YO]at hok ⊢
  have hlen:=y8.yN y8.blk r;have hrl:r.length=s.length - i:=by rw[←hd,Za7]
  generalize hn:(r.takeWhile y8.blk).length=n at *;have hd2:s.drop (i+n)=r.drop n:=by rw[←Zaj,hd]
  have hb0:∀c r2,r.drop n=c::r2→y8.blk c=false:=fun c r2 e=>by
   rw[←hn,y8.drop_tw]at e;have:=List.head?_dropWhile_not y8.blk r;rw[e]at this;simpa using this
  cases hr:r.drop n with
  |nil =>
   have e1:=congrArg List.length hr;rw[Za7,List.length_nil]at e1;have e2:i+n=s.length:=J;rw[y8.a0c,e2];rw[e2]at h1;exact .stop (a2G h1 (NE _) J) (fun h=>by cases h)
  |cons c r2 =>
   have hrn:(r.drop n).length=r2.length+1:=by rw[hr,Za1]
   rw[Za7]at hrn;have hcs:s[i+n]?=some c:=by rw[←Zak,hd2,hr];rfl
   have hlt:=(Pi.1 hcs).1;have hfc:=hs.few c (Za5 hcs);have hnb:=hb0 c r2 hr;have hd3:s.drop (i+n+1)=r2:=by rw[←Zaj,hd2,hr];rfl
   rw[hr]at hok;by_cases lM:c=40
   ·subst lM;rw[y8.b0r]at hok ⊢
    have:=ih r2 (i+n+1) (es++[dI ⟨1,i+n,[],[]⟩]) J hd3 J (fun t ht=>hok t (lm _ ht)) (by rw[Za4,Zaw];omega);rw[Zah]at this;exact .more (Tc h1 hlt (b3e hcs hs.len) J) this
   by_cases sK:c=41
   ·subst sK;rw[y8.a8n]at hok ⊢
    have:=ih r2 (i+n+1) (es++[dI ⟨2,i+n,[],[]⟩]) J hd3 J (fun t ht=>hok t (lm _ ht)) (by rw[Za4,Zaw];omega);rw[Zah]at this;exact .more (Tc h1 hlt (b3f hcs hs.len) J) this
   have kF:=b0z hfc hnb lM sK;rw[y8.b0t kF]at hok ⊢
   have hw:(s.drop (i+n)).takeWhile y8.cst=(c::r2).takeWhile y8.cst:=by rw[hd2,hr]
   have hpos:1≤((c::r2).takeWhile y8.cst).length:=by rw[List.takeWhile_cons,Za0 kF,Za1];omega
   have hwl:=y8.yN y8.cst (c::r2);rw[Za1]at hwl;have hk:=hok _ (PP ..);have b7W:y8.vJ ((c::r2).takeWhile y8.cst)=true:=by
    unfold y8.EN at hk;split at hk
    ·exact hk (.inl rfl)
    ·exact hk (.inr rfl)
   have h2:=a7f hs hcs kF (by rw[hw];exact b7W);rw[hw]at h2;have:=ih ((c::r2).drop ((c::r2).takeWhile y8.cst).length) (i+n+((c::r2).takeWhile y8.cst).length) (es++[dI (y8.EN (i+n) ((c::r2).takeWhile y8.cst))]) (by rw[Za7,Za1];omega) (by rw[←Zaj,hd2,hr]) J (fun t ht=>hok t (lm _ ht)) (by rw[Za4,Zaw,Za7,Za1];omega);rw[Zah]at this;exact .more (Tc h1 hlt h2 J) this
theorem a8w{s:aa0}(hs:FH s)(hok:∀t∈y8.tk 0 s,t.kind=5∨t.kind=6→y8.vJ t.text=true):l7 98 [stA s] (.o7 [JC (y8.tk 0 s),bY]):=by
 have hl:=hs.len;have h:=(b0A hs s.length s 0 [] (NE _) rfl (ww _) hok (by rw[List.length_nil];omega)).tri;have ht:D7 EX (.loop Lh) ⟨stt 53 [(0,stA s),(3,.ptr 0 0),(4,.nil),(5,inA 0)],[some (.cells [inA 0,inA 0])]⟩ .ret (Le ((y8.tk 0 s).map dI)):=D7.aS 4 166 5 (by show 4 < 53;omega) rfl h;generalize (y8.tk 0 s).map dI=es at *;exact pW [.av (inA s.length),yF] [.inv [0,3,4,5] 1 (.ret) (Le es)] [(vi ↑s.length)=(vi (↑s.length)),Bk .gtr 3 12 6000 ↑s.length bF,_,(es.length)=(es.length)] func98 ⟨gU _,dA (WF J),ht,rfl,Z⟩
end Go.Proofs.YthhknjlmjefklaaGreatDoor
namespace Go.Proofs.YthhknjlmjefklaaGreatDoor
open Go.Proofs.Tryz
open Go.RowKit
open Te
theorem b3h(t:Te):vI t=(if t.kind=1 then AO t.np t.nn && decide (t.val=V9) && decide (t.args.length=0)
  else if t.kind=2 then (decide (t.np=[]) && decide (t.nn=[])) && t.val.pU && decide (t.args.length=0)
  else if t.kind=3 then Y8 ⟨t.np,t.nn⟩ && decide (t.val=V9) && decide (t.args.length≤8) && uX t.args
  else false):=by obtain⟨k,p,n,o,l⟩:=t;rw[vI]
theorem a0j(t:Te):l7 225 [y9 t] (if t.kind=3 then O3 t.args else .dt (.row [])):=by
 by_cases h:t.kind=3
 ·rw[Za0 h];exact pV [yF] [Bk .neq 3 4 3 t.kind bF] func225 ⟨H7 (by simp[h]),Z⟩
 ·rw[lw h];exact pV [yT] [Bk .neq 3 4 3 t.kind bT] func225 ⟨H7 (by simp[h]),Z⟩
abbrev FI(l:List Te)(m n i:Int):AS:=⟨stt 40 [(1,inA m),(5,inA n),(6,O3 l),(7,inA i)],[]⟩
abbrev FK(n:Int):AS:=⟨stt 40 [(5,inA n)],[]⟩
noncomputable abbrev Lj:Code:=V5 (ai f191) [1,1,1,1,0,1,0,0]
theorem b7X{l:List Te}{x:Te}{m n k:Int}{i:Nat}(hx:l[i]?=some x)(hl:l.length≤9223372036854775807)(hm:m≤3001)(hn:1≤n)(h0:n < m)(hk0:0≤k)(hk1:k≤3001)(h:l7 191 [y9 x,inA (m - n)] (inA k)):D7 EX Lj (FI l m n i) .I4 (FI l m (n+k) ((i+1:Nat):Int)) :=
 tW [.av (inA l.length),yT,yT,.av (.pin ((C9 x).map .dt)),.av (inA (m - n)),.av (inA k),.av (inA (n+k)),.av (inA ((i+1:Nat):Int))] [] [1,5,6,7] 0 [(vi ↑l.length)=(vi (↑(List.map Te.enc l).length)),Bt .lss 3 18 20 ↑i ↑l.length bT,Bt .lss 3 23 24 n m bT,E5 (List.map Te.enc l) ↑i 11 (C9 x),Bt .sub 3 34 35 m n (vi (m - n)),l7 191 [(y9 x),(inA (m - n))] (inA k),Bt .add 3 29 37 n k (vi (n+k)),Bk .add 3 27 1 ↑i (vi (↑(i+1)))]     ⟨O6 _,F8 (UV (by have:=(Pi.1 hx).1;omega)),F8 (UV h0),Y9 hx,dO rfl J J,h,N8 rfl J J,N8 J J (by have:=(Pi.1 hx).1;omega),Z⟩
theorem b7Y{l:List Te}{m n:Int}{i:Nat}(hi:i=l.length):D7 EX Lj (FI l m n i) (.out 0) (FK n) :=
 tW [.av (inA l.length),yF] [] [5] 0 [(vi ↑l.length)=(vi (↑(List.map Te.enc l).length)),Bt .lss 3 18 20 ↑i ↑l.length bF]     ⟨O6 _,F8 (WF J),Z⟩
theorem b7Z{l:List Te}{m n:Int}{i:Nat}(hi:i < l.length)(h0:¬n < m):D7 EX Lj (FI l m n i) (.out 0) (FK n) :=
 tW [.av (inA l.length),yT,yF] [] [5] 0 [(vi ↑l.length)=(vi (↑(List.map Te.enc l).length)),Bt .lss 3 18 20 ↑i ↑l.length bT,Bt .lss 3 23 24 n m bF]     ⟨O6 _,F8 (UV J),F8 (WF h0),Z⟩
theorem YU{l:List Te}{m:Int}(hl:l.length≤9223372036854775807)(hm:m≤3001)(h:∀x∈l,∀m:Int,1≤m→m≤3001→l7 191 [y9 x,inA m] (inA (cnt x m))):∀(s:List Te) (i:Nat) (n:Int),l.drop i=s→i≤l.length→1≤n→n≤m→Lps EX Lj (FI l m n i) (.out 0) (FK (mM s m n)):=by
 intro s
 induction s with
 |nil =>
  intro i n hd hi hn hn2;have e1:=congrArg List.length hd;rw[Za7,List.length_nil]at e1;rw[mM];exact .stop (b7Y J) (fun h=>by cases h)
 |cons x s ih =>
  intro i n hd hi hn hn2;have hx:l[i]?=some x:=by rw[←Zak,hd];rfl
  have hlt:=(Pi.1 hx).1;have hd2:l.drop (i+1)=s:=by rw[←Zaj,hd];rfl
  rw[mM];by_cases h0:n < m
  ·rw[Za0 h0];have hr:=OU x (m - n) J J;exact .more (b7X hx hl hm hn h0 J J (h x (Za5 hx) (m - n) J J)) (ih (i+1) _ hd2 J J J)
  ·rw[lw h0];exact .stop (b7Z hlt h0) (fun h=>by cases h)
theorem b3i(t:Te)(m:Int):cnt t m=if t.kind=2 then min m (aC t.val) else mM (if t.kind=3 then t.args else []) m 1:=by
 obtain⟨k,p,n,o,l⟩:=t;rw[cnt];split
 ·rfl
 ·split
  ·rfl
  ·rw[mM]
theorem b5e:∀(N:Nat) (t:Te) (m:Int),t.size≤N→t.Bd→1≤m→m≤3001→l7 191 [y9 t,inA m] (inA (cnt t m)):=by
 intro N
 induction N with
 |zero=>intro t m h;have:=t.size_pos;omega
 |succ N ih =>
  intro t m hN hb h1 h2;obtain⟨hv,hs,hp,hn,hl⟩:=hb.parts;have hkids:∀x∈t.args,∀m:Int,1≤m→m≤3001→l7 191 [y9 x,inA m] (inA (cnt x m)):=fun x hx m h1 h2=>ih x m (by have:=Te.Ci hx;omega) (hb.kids hx) h1 h2
  have hP:=Nw t.val;rw[b3i];by_cases k2:t.kind=2
  ·rw[Za0 k2];exact pV [yT,.av (inA (aC t.val)),.av (inA (min m (aC t.val)))] [Bk .eql 3 9 2 t.kind bT,l7 101 [(x9 t.val)] (inA (aC t.val)),(vi (min m (aC t.val)))=(vi (if aC t.val < m then aC t.val else m))] func191 ⟨F6 (dh k2),WR hv,by rw[show min m (aC t.val)=if aC t.val < m then aC t.val else m by split <;> omega],Z⟩
  rw[lw k2];have ha:=a0j t;by_cases k3:t.kind=3
  ·rw[Za0 k3]at ha ⊢
   have ht:=(YU hl h2 hkids t.args 0 1 rfl (ww _) J h1).tri;generalize mM t.args m 1=r at *;exact pW [yF,.av (O3 t.args)] [.inv [1,5,6,7] 0 (.out 0) (FK r)] [Bk .eql 3 9 2 t.kind bF,_,_] func191 ⟨F6 (bI k2),ha,ht,Z⟩
  ·rw[lw k3]at ha ⊢
   have ht:=(YU (l:=[]) O h2 (fun x hx=>by cases hx) [] 0 1 rfl (ww _) J h1).tri;generalize mM [] m 1=r at *;exact pW [yF,.av (.dt (.row []))] [.inv [1,5,6,7] 0 (.out 0) (FK r)] [Bk .eql 3 9 2 t.kind bF,_,_] func191 ⟨F6 (bI k2),ha,ht,Z⟩
theorem a8x{t:Te}(hb:t.Bd):l7 138 [y9 t] (inA ((min t.jH 3001:Nat):Int)):=by
 have h:=b5e _ t 3001 (NE _) hb J J;rw[OU t 3001 J J,show min (3001:Int) (t.jH:Int)=((min t.jH 3001:Nat):Int) by omega]at h
 generalize ((min t.jH 3001:Nat):Int)=r at *;exact pV [.av (inA r)] [_] func138 ⟨h,Z⟩
abbrev FM(l:List Te)(m d i:Int):AS:=⟨stt 31 [(1,inA m),(5,inA d),(6,O3 l),(7,inA i)],[]⟩
abbrev FN(d:Int):AS:=⟨stt 31 [(5,inA d)],[]⟩
noncomputable abbrev Ll:Code:=V5 (ai f192) [1,1,1,0,1,0,0]
theorem b70{l:List Te}{x:Te}{m d k j:Int}{i:Nat}(hx:l[i]?=some x)(hl:l.length≤9223372036854775807)(h0:1 < m)(hm:m≤1000)(h:l7 192 [y9 x,inA (m - 1)] (inA k))(hj:j=if k > d then k else d):D7 EX Ll (FM l m d i) .I4 (FM l m j ((i+1:Nat):Int)) :=
 tW [.av (inA l.length),yT,yT,.av (.pin ((C9 x).map .dt)),.av (inA (m - 1)),.av (inA k),.av (inA j),.av (inA ((i+1:Nat):Int))] [] [1,5,6,7] 0 [(vi ↑l.length)=(vi (↑(List.map Te.enc l).length)),Bt .lss 3 10 12 ↑i ↑l.length bT,Bk .gtr 3 15 1 m bT,E5 (List.map Te.enc l) ↑i 11 (C9 x),Bk .sub 3 25 1 m (vi (m - 1)),l7 192 [(y9 x),(inA (m - 1))] (inA k),(vi j)=(vi (if k > d then k else d)),Bk .add 3 18 1 ↑i (vi (↑(i+1)))]     ⟨O6 _,F8 (UV (by have:=(Pi.1 hx).1;omega)),dA (UV h0),Y9 hx,dO rfl J J,h,by rw[hj],N8 J J (by have:=(Pi.1 hx).1;omega),Z⟩
theorem b71{l:List Te}{m d:Int}{i:Nat}(hi:i=l.length):D7 EX Ll (FM l m d i) (.out 0) (FN d) :=
 tW [.av (inA l.length),yF] [] [5] 0 [(vi ↑l.length)=(vi (↑(List.map Te.enc l).length)),Bt .lss 3 10 12 ↑i ↑l.length bF]     ⟨O6 _,F8 (WF J),Z⟩
theorem b72{l:List Te}{m d:Int}{i:Nat}(hi:i < l.length)(h0:¬1 < m):D7 EX Ll (FM l m d i) (.out 0) (FN d) :=
 tW [.av (inA l.length),yT,yF] [] [5] 0 [(vi ↑l.length)=(vi (↑(List.map Te.enc l).length)),Bt .lss 3 10 12 ↑i ↑l.length bT,Bk .gtr 3 15 1 m bF]     ⟨O6 _,F8 (UV J),dA (WF h0),Z⟩
theorem YV{l:List Te}{m:Int}(hl:l.length≤9223372036854775807)(hm:m≤1000)(h:∀x∈l,1 < m→l7 192 [y9 x,inA (m - 1)] (inA (vH x (m - 1)))):∀(s:List Te) (i:Nat) (d:Int),l.drop i=s→i≤l.length→Lps EX Ll (FM l m d i) (.out 0) (FN (mO s m d)):=by
 intro s
 induction s with
 |nil =>
  intro i d hd hi;have e1:=congrArg List.length hd;rw[Za7,List.length_nil]at e1;rw[mO];exact .stop (b71 J) (fun h=>by cases h)
 |cons x s ih =>
  intro i d hd hi;have hx:l[i]?=some x:=by rw[←Zak,hd];rfl
  have hlt:=(Pi.1 hx).1;have hd2:l.drop (i+1)=s:=by rw[←Zaj,hd];rfl
  rw[mO];by_cases h0:1 < m
  ·rw[Za0 h0];exact .more (b70 hx hl h0 hm (h x (Za5 hx) h0) (by split <;> omega)) (ih (i+1) _ hd2 J)
  ·rw[lw h0];exact .stop (b72 hlt h0) (fun h=>by cases h)
theorem b3j(t:Te)(m:Int):vH t m=mO (if t.kind=3 then t.args else []) m 0+1:=by
 obtain⟨k,p,n,o,l⟩:=t;rw[vH];split
 ·rfl
 ·rw[mO];rfl
theorem b5f:∀(N:Nat) (t:Te) (m:Int),t.size≤N→t.Bd→1≤m→m≤1000→l7 192 [y9 t,inA m] (inA (vH t m)):=by
 intro N
 induction N with
 |zero=>intro t m h;have:=t.size_pos;omega
 |succ N ih =>
  intro t m hN hb h1 h2;obtain⟨hv,hs,hp,hn,hl⟩:=hb.parts;have hb1:=OV t m h1;have hdp:=t.b0q;rw[b3j]at hb1 ⊢
  have ha:=a0j t;by_cases k3:t.kind=3
  ·rw[Za0 k3]at ha hb1 ⊢
   have ht:=(YV hl h2 (fun x hx h0=>ih x (m - 1) (by have:=Te.Ci hx;omega) (hb.kids hx) J J) t.args 0 0 rfl (ww _)).tri;generalize mO t.args m 0=r at *;exact pW [.av (O3 t.args),.av (inA (r+1))] [.inv [1,5,6,7] 0 (.out 0) (FN r)] [_,_,Bk .add 3 29 1 r (vi (r+1))] func192 ⟨ha,ht,N8 rfl J J,Z⟩
  ·rw[lw k3]at ha hb1 ⊢
   have ht:=(YV (l:=[]) O h2 (fun x hx=>by cases hx) [] 0 0 rfl (ww _)).tri;generalize mO [] m 0=r at *;exact pW [.av (.dt (.row [])),.av (inA (r+1))] [.inv [1,5,6,7] 0 (.out 0) (FN r)] [_,_,Bk .add 3 29 1 r (vi (r+1))] func192 ⟨ha,ht,N8 rfl J J,Z⟩
theorem a8y{t:Te}(hb:t.Bd):l7 139 [y9 t] (inA ((min t.dep 201:Nat):Int)):=by
 have h:=b5f _ t 201 (NE _) hb J J;rw[OV t 201 J,show min (201:Int) (t.dep:Int)=((min t.dep 201:Nat):Int) by omega]at h
 generalize ((min t.dep 201:Nat):Int)=r at *;exact pV [.av (inA r)] [_] func139 ⟨h,Z⟩
theorem b5g{o:Ob}(h:o.Wf):l7 50 [x9 o,x9 V9] (o6 (decide (o=V9))):=b21 h V9
theorem VT(p n:aa0)(hp:p.length≤9223372036854775807)(hn:n.length≤9223372036854775807):l7 129 [y7 p n] (o6 (AO p n)):=by
 have hs:=YR p n hp hn;unfold AO;cases h1:Y8 ⟨p,n⟩ with
 |false =>
  rw[h1]at hs;exact pV [yF] [_] func129 ⟨hs,Z⟩
 |true =>
  rw[h1]at hs;cases h2:decide (p=x8) && decide (n=aQ) with
  |true=>exact pV [yT,.av (y7 x8 aQ),yF] [_,l7 29 [(stA [110,105,108])] (y7 x8 aQ),Bn .neq 28 (.tmp 6) (.tmp 7) (Value.agg #[str p,str n]) (Value.agg #[str x8,str aQ]) bF] func129 ⟨hs,O1 _,CX h2,Z⟩
  |false =>
   cases h3:decide (p=x8) && decide (n=[116]) with
   |true=>exact pV [yT,.av (y7 x8 aQ),yT,.av (y7 x8 [116]),yF] [_,l7 29 [(stA [110,105,108])] (y7 x8 aQ),Bn .neq 28 (.tmp 6) (.tmp 7) (Value.agg #[str p,str n]) (Value.agg #[str x8,str aQ]) bT,l7 29 [(stA [116])] (y7 x8 [116]),Bn .neq 28 (.tmp 11) (.tmp 12) (Value.agg #[str p,str n]) (Value.agg #[str x8,str [116]]) bF] func129 ⟨hs,O1 _,CX h2,O1 _,CX h3,Z⟩
   |false=>exact pV [yT,.av (y7 x8 aQ),yT,.av (y7 x8 [116]),yT] [_,l7 29 [(stA [110,105,108])] (y7 x8 aQ),Bn .neq 28 (.tmp 6) (.tmp 7) (Value.agg #[str p,str n]) (Value.agg #[str x8,str aQ]) bT,l7 29 [(stA [116])] (y7 x8 [116]),Bn .neq 28 (.tmp 11) (.tmp 12) (Value.agg #[str p,str n]) (Value.agg #[str x8,str [116]]) bT] func129 ⟨hs,O1 _,CX h2,O1 _,CX h3,Z⟩
abbrev BC(t:Te)(i:Int):AS:=⟨stt 72 [(1,.ptr 0 0),(4,inA i)],[some (.cells ((C9 t).map .dt))]⟩
abbrev Us(t:Te)(b:Bool):AS:=⟨stt 72 [(2,o6 b)],[some (.cells ((C9 t).map .dt))]⟩
abbrev Ut(t:Te):AS:=⟨stt 72 [],[some (.cells ((C9 t).map .dt))]⟩
noncomputable abbrev FO:Code:=V5 (ai f140) [1,1,0,1,0,1,1,1,1,1,0,1,0,1,0,0]
theorem a2H{t x:Te}{i:Nat}(hx:t.args[i]?=some x)(hl:t.args.length≤9223372036854775807)(h:l7 140 [y9 x] (o6 true)):D7 EX FO (BC t i) .I4 (BC t ((i+1:Nat):Int)) :=
 tW [.av (inA t.args.length),yT,.av (.pin ((C9 x).map .dt)),yT,.av (inA ((i+1:Nat):Int))] [] [1,4] 1 [(vi ↑t.args.length)=(vi (↑(List.map Te.enc t.args).length)),Bt .lss 3 58 61 ↑i ↑t.args.length bT,E5 (List.map Te.enc t.args) ↑i 11 (C9 x),l7 140 [(y9 x)] (o6 true),Bk .add 3 63 1 ↑i (vi (↑(i+1)))]     ⟨O6 _,F8 (UV (by have:=(Pi.1 hx).1;omega)),Y9 hx,h,N8 J J (by have:=(Pi.1 hx).1;omega),Z⟩
theorem b73{t:Te}{i:Nat}(hi:i=t.args.length):D7 EX FO (BC t i) (.out 1) (Ut t) :=
 tW [.av (inA t.args.length),yF] [] [] 1 [(vi ↑t.args.length)=(vi (↑(List.map Te.enc t.args).length)),Bt .lss 3 58 61 ↑i ↑t.args.length bF]     ⟨O6 _,F8 (WF J),Z⟩
theorem b74{t x:Te}{i:Nat}(hx:t.args[i]?=some x)(h:l7 140 [y9 x] (o6 false)):D7 EX FO (BC t i) .ret (Us t false) :=
 tW [.av (inA t.args.length),yT,.av (.pin ((C9 x).map .dt)),yF] [] [2] 1 [(vi ↑t.args.length)=(vi (↑(List.map Te.enc t.args).length)),Bt .lss 3 58 61 ↑i ↑t.args.length bT,E5 (List.map Te.enc t.args) ↑i 11 (C9 x),l7 140 [(y9 x)] (o6 false)]     ⟨O6 _,F8 (UV (by have:=(Pi.1 hx).1;omega)),Y9 hx,h,Z⟩
theorem b0B{t:Te}(hl:t.args.length≤9223372036854775807)(h:∀x∈t.args,l7 140 [y9 x] (o6 (vI x))):∀(s:List Te) (i:Nat),t.args.drop i=s→i≤t.args.length→(uX s=true→Lps EX FO (BC t i) (.out 1) (Ut t))∧(uX s=false→Lps EX FO (BC t i) .ret (Us t false)):=by
 intro s
 induction s with
 |nil =>
  intro i hd hi;have e1:=congrArg List.length hd;rw[Za7,List.length_nil]at e1;rw[uX];exact⟨fun _=>.stop (b73 J) (fun h=>by cases h),fun h=>by cases h⟩
 |cons x s ih =>
  intro i hd hi;have hx:t.args[i]?=some x:=by rw[←Zak,hd];rfl
  have hlt:=(Pi.1 hx).1;have hd2:t.args.drop (i+1)=s:=by rw[←Zaj,hd];rfl
  obtain⟨k1,k2⟩:=ih (i+1) hd2 J;have hc:=h x (Za5 hx);rw[uX];cases b:vI x with
  |false =>
   rw[b]at hc;exact⟨fun e=>by simp at e,fun _=>.stop (b74 hx hc) (fun h=>by cases h)⟩
  |true =>
   rw[b]at hc;exact⟨fun e=>.more (a2H hx hl hc) (k1 (by simpa using e)),fun e=>.more (a2H hx hl hc) (k2 (by simpa using e))⟩
theorem a7g:∀(N:Nat) (t:Te),t.size≤N→t.Bd→l7 140 [y9 t] (o6 (vI t)):=by
 intro N
 induction N with
 |zero=>intro t h;have:=t.size_pos;omega
 |succ N ih =>
  intro t hN hb;obtain⟨hv,hs,hp,hn,hl⟩:=hb.parts;rw[b3h];have h2:=b5g hv;by_cases k1:t.kind=1
  ·rw[Za0 k1];have h1:=VT t.np t.nn hp hn;cases b2:decide (t.val=V9) with
   |false =>
    rw[b2]at h2;rw[Bool.and_false,Zb6];exact pV [yF,yT] [_,Bk .eql 3 10 1 t.kind bT] func140 ⟨h2,F6 (dh k1),Z⟩
   |true =>
    rw[b2]at h2;cases b1:AO t.np t.nn with
    |false =>
     rw[b1]at h1;exact pV [yT,yT,yF] [_,Bk .eql 3 10 1 t.kind bT,_] func140 ⟨h2,F6 (dh k1),h1,Z⟩
    |true =>
     rw[b1]at h1;exact pV [yT,yT,yT,.av (inA t.args.length),.av (o6 (decide (t.args.length=0)))] [_,Bk .eql 3 10 1 t.kind bT,_,(vi ↑t.args.length)=(vi (↑(List.map Te.enc t.args).length)),Bk .eql 3 22 0 ↑t.args.length (Value.bool (decide (t.args.length=0)))] func140 ⟨h2,F6 (dh k1),h1,O6 _,F6 (by rw[Zam];omega),Z⟩
  rw[lw k1];by_cases k2:t.kind=2
  ·rw[Za0 k2];have h3:=a7e hv hs;cases b1:decide (t.np=[]) && decide (t.nn=[]) with
   |false=>exact pV [.av (o6 (decide (t.val=V9))),yF,yT,yF] [_,Bk .eql 3 10 1 t.kind bF,Bk .eql 3 10 2 t.kind bT,Bn .eql 28 (.tmp 28) (.tmp 29) (Value.agg #[str t.np,str t.nn]) (Value.agg #[Value.string { data:=#[]:ByteArray },Value.string { data:=#[]:ByteArray }]) bF] func140 ⟨h2,F6 (bI k1),F6 (dh k2),aO b1,Z⟩
   |true =>
    cases b2:t.val.pU with
    |false =>
     rw[b2]at h3;exact pV [.av (o6 (decide (t.val=V9))),yF,yT,yT,yF] [_,Bk .eql 3 10 1 t.kind bF,Bk .eql 3 10 2 t.kind bT,Bn .eql 28 (.tmp 28) (.tmp 29) (Value.agg #[str t.np,str t.nn]) (Value.agg #[Value.string { data:=#[]:ByteArray },Value.string { data:=#[]:ByteArray }]) bT,_] func140 ⟨h2,F6 (bI k1),F6 (dh k2),aO b1,h3,Z⟩
    |true =>
     rw[b2]at h3;exact pV [.av (o6 (decide (t.val=V9))),yF,yT,yT,yT,.av (inA t.args.length),.av (o6 (decide (t.args.length=0)))] [_,Bk .eql 3 10 1 t.kind bF,Bk .eql 3 10 2 t.kind bT,Bn .eql 28 (.tmp 28) (.tmp 29) (Value.agg #[str t.np,str t.nn]) (Value.agg #[Value.string { data:=#[]:ByteArray },Value.string { data:=#[]:ByteArray }]) bT,_,(vi ↑t.args.length)=(vi (↑(List.map Te.enc t.args).length)),Bk .eql 3 39 0 ↑t.args.length (Value.bool (decide (t.args.length=0)))] func140 ⟨h2,F6 (bI k1),F6 (dh k2),aO b1,h3,O6 _,F6 (by rw[Zam];omega),Z⟩
  rw[lw k2];by_cases k3:t.kind=3
  ·rw[Za0 k3];have h1:=YR t.np t.nn hp hn;cases b2:decide (t.val=V9) with
   |false =>
    rw[b2]at h2;rw[Bool.and_false,Zb6,Zb6];exact pV [yF,yF,yF,yT] [_,Bk .eql 3 10 1 t.kind bF,Bk .eql 3 10 2 t.kind bF,Bk .eql 3 10 3 t.kind bT] func140 ⟨h2,F6 (bI k1),F6 (bI k2),F6 (dh k3),Z⟩
   |true =>
    rw[b2]at h2;cases b1:Y8 ⟨t.np,t.nn⟩ with
    |false =>
     rw[b1]at h1;exact pV [yT,yF,yF,yT,yF] [_,Bk .eql 3 10 1 t.kind bF,Bk .eql 3 10 2 t.kind bF,Bk .eql 3 10 3 t.kind bT,_] func140 ⟨h2,F6 (bI k1),F6 (bI k2),F6 (dh k3),h1,Z⟩
    |true =>
     rw[b1]at h1;cases b3:decide (t.args.length≤8) with
     |false =>
      have e:=Zbe b3;exact pV [yT,yF,yF,yT,yT,.av (inA t.args.length),yT] [_,Bk .eql 3 10 1 t.kind bF,Bk .eql 3 10 2 t.kind bF,Bk .eql 3 10 3 t.kind bT,_,(vi ↑t.args.length)=(vi (↑(List.map Te.enc t.args).length)),Bk .gtr 3 55 8 ↑t.args.length bT] func140 ⟨h2,F6 (bI k1),F6 (bI k2),F6 (dh k3),h1,O6 _,dA (UV J),Z⟩
     |true =>
      have e:=Zad b3;obtain⟨l1,l2⟩:=b0B hl (fun x hx=>ih x (by have:=Te.Ci hx;omega) (hb.kids hx)) t.args 0 rfl (ww _);cases b4:uX t.args with
      |false =>
       have ht:=(l2 b4).tri;exact pW [yT,yF,yF,yT,yT,.av (inA t.args.length),yF] [.inv [1,4] 1 (.ret) (Us t false)] [_,Bk .eql 3 10 1 t.kind bF,Bk .eql 3 10 2 t.kind bF,Bk .eql 3 10 3 t.kind bT,_,(vi ↑t.args.length)=(vi (↑(List.map Te.enc t.args).length)),Bk .gtr 3 55 8 ↑t.args.length bF,_] func140 ⟨h2,F6 (bI k1),F6 (bI k2),F6 (dh k3),h1,O6 _,dA (WF J),ht,Z⟩
      |true =>
       have ht:=(l1 b4).tri;exact pW [yT,yF,yF,yT,yT,.av (inA t.args.length),yF] [.inv [1,4] 1 (.out 1) (Ut t)] [_,Bk .eql 3 10 1 t.kind bF,Bk .eql 3 10 2 t.kind bF,Bk .eql 3 10 3 t.kind bT,_,(vi ↑t.args.length)=(vi (↑(List.map Te.enc t.args).length)),Bk .gtr 3 55 8 ↑t.args.length bF,_] func140 ⟨h2,F6 (bI k1),F6 (bI k2),F6 (dh k3),h1,O6 _,dA (WF J),ht,Z⟩
  ·rw[lw k3];exact pV [.av (o6 (decide (t.val=V9))),yF,yF,yF] [_,Bk .eql 3 10 1 t.kind bF,Bk .eql 3 10 2 t.kind bF,Bk .eql 3 10 3 t.kind bF] func140 ⟨h2,F6 (bI k1),F6 (bI k2),F6 (bI k3),Z⟩
theorem a7h{t:Te}(hb:t.Bd):l7 104 [y9 t] (o6 t.valid):=by
 have h1:=a8x hb;have h2:=a8y hb;have h3:=a7g _ t (NE _) hb;unfold Te.valid;cases b1:decide (t.jH≤3000) with
 |false =>
  have e:=Zbe b1;exact pV [.av (inA ((min t.jH 3001:Nat):Int)),yF] [_,Bk .leq 3 4 3000 (↑(min t.jH 3001)) bF] func104 ⟨h1,jq (WF J),Z⟩
 |true =>
  have e:=Zad b1;cases b2:decide (t.dep≤200) with
  |false =>
   have e2:=Zbe b2;exact pV [.av (inA ((min t.jH 3001:Nat):Int)),yT,.av (inA ((min t.dep 201:Nat):Int)),yF] [_,Bk .leq 3 4 3000 (↑(min t.jH 3001)) bT,_,Bk .leq 3 8 200 (↑(min t.dep 201)) bF] func104 ⟨h1,jq (UV J),h2,jq (WF J),Z⟩
  |true =>
   have e2:=Zad b2;exact pV [.av (inA ((min t.jH 3001:Nat):Int)),yT,.av (inA ((min t.dep 201:Nat):Int)),yT,.av (o6 (vI t))] [_,Bk .leq 3 4 3000 (↑(min t.jH 3001)) bT,_,Bk .leq 3 8 200 (↑(min t.dep 201)) bT,_] func104 ⟨h1,jq (UV J),h2,jq (UV J),h3,Z⟩
end Go.Proofs.YthhknjlmjefklaaGreatDoor
namespace Go.Proofs.YthhknjlmjefklaaGreatDoor
open Go.Proofs.Tryz
open Go.RowKit
theorem l7.law{f:FuncId}{args:List AV}(h:l7 f args (o6 true)){ok:Nat→Prop}{W:World}{vs:List Value}(hG:Gx W)(hv:RL (M0 ok) W args vs):Calls prog f vs.toArray W fun e W'=>e=.returned (.bool true)∧Below W.heap.size W W' :=
 (h.2 ok W vs hG hv).mono fun e W' ⟨v,he,hb,hr⟩=>⟨by rw[he,Rd.Z9 hr],hb⟩
abbrev Says(f:FuncId)(args:Array Value)(W:World):Prop:=Calls prog f args W fun e W'=>e=.returned (.bool true)∧Below W.heap.size W W'
end Go.Proofs.YthhknjlmjefklaaGreatDoor
