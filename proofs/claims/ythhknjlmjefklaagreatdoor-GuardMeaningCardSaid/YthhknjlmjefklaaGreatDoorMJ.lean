/- Numbers, names and tokens of the reference's reader. -/
import Derived.Test.YthhknjlmjefklaaGreatDoorMI
import Derived.Test.YthhknjlmjefklaaGreatDoorMH
import Derived.Test.YthhknjlmjefklaaGreatDoorMD
namespace Go.Proofs.YthhknjlmjefklaaGreatDoor
open Go.RowKit
theorem p_num0:Puk 184 [stA [48]] (.tup [stA [48],stA [49],boA true]) :=
 pwalk (an:=[.no,.no,.no,.no,.no,.no,.no,.no,.no,.no,.no,.no,.no,.no,.no,.no,.no]) (ls:=[.run 2]) (ps:=[]) Tryz.func184 (by kernel_rfl) (by kernel_rfl) trivial
theorem p_num1:Puk 184 [stA [49]] (.tup [stA [49],stA [49],boA true]) :=
 pwalk (an:=[.no,.no,.no,.no,.no,.no,.no,.no,.no,.no,.no,.no,.no,.no,.no,.no,.no]) (ls:=[.run 2]) (ps:=[]) Tryz.func184 (by kernel_rfl) (by kernel_rfl) trivial
theorem p_numM:Puk 184 [stA [45,49]] (.tup [stA [45,49],stA [49],boA true]) :=
 pwalk (an:=[.no,.no,.no,.no,.no,.no,.no,.no,.no,.no,.no,.no,.no,.no,.no,.no,.no]) (ls:=[.run 2]) (ps:=[]) Tryz.func184 (by kernel_rfl) (by kernel_rfl) trivial
theorem p_numN {w:List UInt8} {c:UInt8} (hc:w[0]?=some c) (h45:(c == 45)=false) (hd:Rdr.dig c=false) (hl:w.length≤6000):Puk 184 [stA w] (.tup [stA [],stA [],boA false]):=by
 have hlt:=(List.getElem?_eq_some_iff.1 hc).1
 have hix:IxS ⟨w.toArray⟩ 0 (.int .u8 (c.toNat:Int)):=ix_s hc
 unfold Rdr.dig at hd
 cases h1:decide (48≤c.toNat) with
 | false=>exact pwalk (an:=[.av (inA w.length),yT,.av (u8A c),yF,.av (inA w.length),yT,.av (u8A c),yF,.no]) (ls:=[.run 1]) (ps:=[(vi ↑w.length)=(vi (↑w.length)),Bn .gtr 3 (.tmp 9) (.const (vi 0)) (vi ↑w.length) (vi 0) bT,IxS ({ data:=w.toArray:ByteArray }) 0 (Value.int .u8 ↑c.toNat),Bn .eql 5 (.tmp 13) (.const (Value.int .u8 45)) (Value.int .u8 ↑c.toNat) (Value.int .u8 45) bF,(vi ↑w.length)=(vi (↑w.length)),Bn .lss 3 (.tmp 17) (.tmp 19) (vi 0) (vi ↑w.length) bT,IxS ({ data:=w.toArray:ByteArray }) 0 (Value.int .u8 ↑c.toNat),Bn .geq 5 (.tmp 24) (.const (Value.int .u8 48)) (Value.int .u8 ↑c.toNat) (Value.int .u8 48) bF]) Tryz.func184 (by kernel_rfl) (by kernel_rfl) ⟨lenS _,bin_igt (decide_eq_true (by omega)),hix,bin_ieq (u8n rfl h45),lenS _,bin_ilt (decide_eq_true (by omega)),hix,bin_ige (by rw [← h1,decide_eq_decide];omega),trivial⟩
 | true =>
  rw [h1,Bool.true_and] at hd
  exact pwalk (an:=[.av (inA w.length),yT,.av (u8A c),yF,.av (inA w.length),yT,.av (u8A c),yT,.av (u8A c),yF,.no]) (ls:=[.run 1]) (ps:=[(vi ↑w.length)=(vi (↑w.length)),Bn .gtr 3 (.tmp 9) (.const (vi 0)) (vi ↑w.length) (vi 0) bT,IxS ({ data:=w.toArray:ByteArray }) 0 (Value.int .u8 ↑c.toNat),Bn .eql 5 (.tmp 13) (.const (Value.int .u8 45)) (Value.int .u8 ↑c.toNat) (Value.int .u8 45) bF,(vi ↑w.length)=(vi (↑w.length)),Bn .lss 3 (.tmp 17) (.tmp 19) (vi 0) (vi ↑w.length) bT,IxS ({ data:=w.toArray:ByteArray }) 0 (Value.int .u8 ↑c.toNat),Bn .geq 5 (.tmp 24) (.const (Value.int .u8 48)) (Value.int .u8 ↑c.toNat) (Value.int .u8 48) bT,IxS ({ data:=w.toArray:ByteArray }) 0 (Value.int .u8 ↑c.toNat),Bn .leq 5 (.tmp 30) (.const (Value.int .u8 57)) (Value.int .u8 ↑c.toNat) (Value.int .u8 57) bF]) Tryz.func184 (by kernel_rfl) (by kernel_rfl) ⟨lenS _,bin_igt (decide_eq_true (by omega)),hix,bin_ieq (u8n rfl h45),lenS _,bin_ilt (decide_eq_true (by omega)),hix,bin_ige (by rw [← h1,decide_eq_decide];omega),hix,bin_ile (by rw [← hd,decide_eq_decide];omega),trivial⟩
theorem p_plain0:Puk 185 [stA [48]] (stA [48]):=pwalk (an:=[.no,.no,.no,.no,.no,.no,.no,.no,.no,.no,.no,.no,.no]) (ls:=[.run 2]) (ps:=[]) Tryz.func185 (by kernel_rfl) (by kernel_rfl) trivial
theorem p_plain1:Puk 185 [stA [49]] (stA [49]):=pwalk (an:=[.no,.no,.no,.no,.no,.no,.no,.no,.no,.no,.no,.no,.no]) (ls:=[.run 2]) (ps:=[]) Tryz.func185 (by kernel_rfl) (by kernel_rfl) trivial
theorem p_plainM:Puk 185 [stA [45,49]] (stA [45,49]):=pwalk (an:=[.no,.no,.no,.no,.no,.no,.no,.no,.no,.no,.av (stA [49]),.av (stA [45,49])]) (ls:=[.run 2]) (ps:=[ SlcS ⟨#[45,49]⟩ (1:Int) (2:Int) (str [49]),Bn .add 9 (.const (str [45])) (.tmp 33) (str [45]) (str [49]) (str [45,49])]) Tryz.func185 (by kernel_rfl) (by kernel_rfl) ⟨⟨by decide,by decide,by decide,by rw [Lib.extract_eq];rfl⟩,bin_strs (a:=[45]) (b:=[49]) (by decide),trivial⟩
abbrev tokA (t:Rdr.Tok):AV:=.agg [inA t.kind,inA t.pos,stA [],stA t.text,stA t.den]
abbrev tokC (t:Rdr.Tok):List Dt:=[.val (.int .i64 t.kind),.val (.int .i64 (t.pos:Int)),.val (str []),.val (str t.text),.val (str t.den)]
abbrev seA:AV:=.agg [inA 0,inA 0]
theorem p_named {k:Int} {i:Nat} {w:List UInt8} (h:w.length≤40):Puk 180 [.agg [inA k,inA i,stA [],stA w,stA []],boA false] seA :=
 pwalk (an:=[.av (inA w.length),yF,yF]) (ls:=[]) (ps:=[(vi ↑w.length)=(vi (↑w.length)),Bn .gtr 3 (.tmp 8) (.const (vi 40)) (vi ↑w.length) (vi 40) bF,Bn .neq 9 (.tmp 22) (.const (Value.string { data:=#[]:ByteArray })) (str []) (str []) bF]) Tryz.func180 (by kernel_rfl) (by kernel_rfl) ⟨lenS _,bin_igt (decide_eq_false (by omega)),bin_sne rfl,trivial⟩
theorem p_oneO {s:List UInt8} {i:Nat} (hc:s[i]?=some 40) (hl:s.length≤6000):Puk 125 [stA s,inA i] (.tup [tokA ⟨1,i,[],[]⟩,inA ((i+1:Nat):Int),seA]) :=
 pwalk (an:=[.av (.dt (.val (.int .u8 40))),yT,.av (inA ((i+1:Nat):Int))]) (ls:=[]) (ps:=[IxS ({ data:=s.toArray:ByteArray }) ↑i (Value.int .u8 40),Bn .eql 5 (.tmp 21) (.const (Value.int .u8 40)) (Value.int .u8 40) (Value.int .u8 40) bT,Bn .add 3 (.tmp 25) (.const (vi 1)) (vi ↑i) (vi 1) (vi (↑(i+1)))]) Tryz.func125 (by kernel_rfl) (by kernel_rfl) ⟨ix_s (c:=40) hc,bin_ieq rfl,bin_iadd (by omega) (by omega) (by have:=(List.getElem?_eq_some_iff.1 hc).1;omega),trivial⟩
theorem p_oneC {s:List UInt8} {i:Nat} (hc:s[i]?=some 41) (hl:s.length≤6000):Puk 125 [stA s,inA i] (.tup [tokA ⟨2,i,[],[]⟩,inA ((i+1:Nat):Int),seA]) :=
 pwalk (an:=[.av (.dt (.val (.int .u8 41))),yF,yT,.av (inA ((i+1:Nat):Int))]) (ls:=[]) (ps:=[IxS ({ data:=s.toArray:ByteArray }) ↑i (Value.int .u8 41),Bn .eql 5 (.tmp 21) (.const (Value.int .u8 40)) (Value.int .u8 41) (Value.int .u8 40) bF,Bn .eql 5 (.tmp 29) (.const (Value.int .u8 41)) (Value.int .u8 41) (Value.int .u8 41) bT,Bn .add 3 (.tmp 33) (.const (vi 1)) (vi ↑i) (vi 1) (vi (↑(i+1)))]) Tryz.func125 (by kernel_rfl) (by kernel_rfl) ⟨ix_s (c:=41) hc,bin_ieq rfl,bin_ieq rfl,bin_iadd (by omega) (by omega) (by have:=(List.getElem?_eq_some_iff.1 hc).1;omega),trivial⟩
theorem p_red {a b x y:List UInt8} (ha:a.length≤1000) (hb:b.length≤1000) (hx:Lib.itoa (rdN (Dec.dval a) (Dec.dval b))=x) (hy:Lib.itoa (rdD (Dec.dval a) (Dec.dval b))=y):Puk 72 [stA a,stA b] (.tup [stA x,stA y]) :=
 ⟨fnm Tryz.func72 rfl (by kernel_rfl),fun ok w vs _ hv=>by
  obtain ⟨u,us,rfl,h1,h2⟩:=hv
  obtain rfl:=RL.one_val h2
  rw [Rd.val_eq h1]
  refine (refReduce_any a b w (by omega) (by omega)).mono ?_
  rintro e w' ⟨rfl,h⟩
  rw [hx,hy]
  exact ⟨_,rfl,h,_,rfl,_,_,rfl,.val _,_,_,rfl,.val _,rfl⟩⟩
theorem p_digN {l:List UInt8} {k:Nat} (hl:l.length≤1000) (hk:(Dec.mag (norm l)).length=k):Puk 186 [stA l] (inA (k:Int)) :=
 ⟨fnm Tryz.func186 rfl (by kernel_rfl),fun ok w vs _ hv=>by
  obtain rfl:=RL.one_val hv
  refine (refDigitsN_any l w (by omega)).mono ?_
  rintro e w' ⟨rfl,h⟩
  rw [hk]
  exact ⟨_,rfl,h,.val _⟩⟩
theorem ne_u8 {c k:UInt8} (h:(c == k)=false):decide ((c.toNat:Int)=(k.toNat:Int))=false:=u8n rfl h
theorem cst_ne {c:UInt8} (h:Rdr.cst c=true):(c == 40)=false∧(c == 41)=false∧(c == 39)=false∧(c == 34)=false∧(c == 124)=false:=by
 unfold Rdr.cst at h
 simp only [Bool.and_eq_true,decide_eq_true_eq,Bool.not_eq_true'] at h
 obtain ⟨⟨⟨⟨⟨⟨⟨⟨_,_⟩,h3⟩,h4⟩,h5⟩,h6⟩,_⟩,h8⟩,_⟩:=h
 exact ⟨h3,h4,h5,h6,h8⟩
theorem slc_w {s w:List UInt8} {i e:Nat} (hw:(s.drop i).takeWhile Rdr.cst=w) (he:i+w.length=e) (hl:e≤s.length):SlcS ⟨s.toArray⟩ (i:Int) (e:Int) (str w):=by
 have hp:(s.drop i).takeWhile Rdr.cst <+: s.drop i:=List.takeWhile_prefix _
 rw [hw] at hp
 have e2:w=(s.drop i).take w.length:=(List.prefix_iff_eq_take.1 hp)
 refine ⟨by omega,by omega,?_,?_⟩
 ·show (e:Int)≤((s.toArray.size:Nat):Int)
  simpa using hl
 ·rw [Lib.extract_eq,Int.toNat_natCast,Int.toNat_natCast]
  congr 3
  rw [e2,← he,Nat.add_sub_cancel_left]
theorem p_oneW {s w:List UInt8} {i e:Nat} {c:UInt8} (hc:s[i]?=some c) (hl:s.length≤6000) (hcst:Rdr.cst c=true) (hw:(s.drop i).takeWhile Rdr.cst=w) (he:i+w.length=e) (h58:∀ c∈s,(c == 58)=false) (hn:Puk 184 [stA w] (.tup [stA [],stA [],boA false])) (h46:w≠[46]) (h40:w.length≤40):Puk 125 [stA s,inA i] (.tup [tokA ⟨6,i,w,[]⟩,inA e,seA]):=by
 obtain ⟨n1,n2,n3,n4,n5⟩:=cst_ne hcst
 have hi:=(List.getElem?_eq_some_iff.1 hc).1
 have hwd:=p_word hl (i:=i) (by omega)
 rw [hw,he] at hwd
 have hlw:e≤s.length:=by
  have:=Rdr.len_take_drop Rdr.cst (s.drop i)
  rw [hw,List.length_drop] at this
  omega
 exact pwalk (an:=[.av (u8A c),yF,yF,yF,yF,yF,yT,.av (inA e),.av (stA w),yF,.av (.tup [stA [],stA [],boA false]),yF,.av (seA)]) (ls:=[]) (ps:=[IxS ({ data:=s.toArray:ByteArray }) ↑i (Value.int .u8 ↑c.toNat),Bn .eql 5 (.tmp 21) (.const (Value.int .u8 40)) (Value.int .u8 ↑c.toNat) (Value.int .u8 40) bF,Bn .eql 5 (.tmp 29) (.const (Value.int .u8 41)) (Value.int .u8 ↑c.toNat) (Value.int .u8 41) bF,Bn .eql 5 (.tmp 37) (.const (Value.int .u8 39)) (Value.int .u8 ↑c.toNat) (Value.int .u8 39) bF,Bn .eql 5 (.tmp 45) (.const (Value.int .u8 34)) (Value.int .u8 ↑c.toNat) (Value.int .u8 34) bF,Bn .eql 5 (.tmp 73) (.const (Value.int .u8 124)) (Value.int .u8 ↑c.toNat) (Value.int .u8 124) bF,Puk 181 [(.dt (.val (Value.int .u8 ↑c.toNat)))] (boA true),Puk 182 [(stA s),(inA ↑i)] (inA ↑e),SlcS ({ data:=s.toArray:ByteArray }) ((some ↑i).getD 0) ((some ↑e).getD ↑{ data:=s.toArray:ByteArray }.size) (str w),Puk 178 [(stA s),(inA ↑e),(.dt (.val (Value.int .u8 58))),(.dt (.val (Value.int .u8 58)))] (boA false),Puk 184 [(stA w)] (.tup [(stA []),(stA []),(boA false)]),Bn .eql 9 (.tmp 131) (.const (Value.string { data:=#[46]:ByteArray })) (str w) (str [46]) bF,Puk 180 [(.agg [(inA 6),(inA ↑i),(stA []),(stA w),(stA [])]),(boA false)] (.agg [(inA 0),(inA 0)])]) Tryz.func125 (by kernel_rfl) (by kernel_rfl) ⟨ix_s hc,bin_ieq (ne_u8 n1),bin_ieq (ne_u8 n2),bin_ieq (ne_u8 n3),bin_ieq (ne_u8 n4),bin_ieq (ne_u8 n5),hcst ▸ p_cst c,hwd,slc_w hw he hlw,p_hasF (a:=58) (b:=58) hl (by omega) h58,hn,bin_seq (decide_eq_false h46),p_named h40,trivial⟩
theorem p_oneN {s w:List UInt8} {i e:Nat} {c:UInt8} (hc:s[i]?=some c) (hl:s.length≤6000) (hcst:Rdr.cst c=true) (hw:(s.drop i).takeWhile Rdr.cst=w) (he:i+w.length=e) (h58:∀ c∈s,(c == 58)=false) (hn:Puk 184 [stA w] (.tup [stA w,stA [49],boA true])) (hp:Puk 185 [stA w] (stA w)) (hr:Puk 72 [stA w,stA [49]] (.tup [stA w,stA [49]])) (hd:Puk 186 [stA w] (inA 1)) (hd1:Puk 186 [stA [49]] (inA 1)) (h46:w≠[46]):Puk 125 [stA s,inA i] (.tup [tokA ⟨5,i,w,[49]⟩,inA e,seA]):=by
 obtain ⟨n1,n2,n3,n4,n5⟩:=cst_ne hcst
 have hi:=(List.getElem?_eq_some_iff.1 hc).1
 have hwd:=p_word hl (i:=i) (by omega)
 rw [hw,he] at hwd
 have hlw:e≤s.length:=by
  have:=Rdr.len_take_drop Rdr.cst (s.drop i)
  rw [hw,List.length_drop] at this
  omega
 exact pwalk (an:=[.av (u8A c),yF,yF,yF,yF,yF,yT,.av (inA e),.av (stA w),yF,.av (.tup [stA w,stA [49],boA true]),yF,.av (stA [49]),yF,.av (stA w),.av (stA [49]),.av (.tup [stA w,stA [49]]),.av (inA 1),yF,.av (inA 1),yF]) (ls:=[]) (ps:=[IxS ({ data:=s.toArray:ByteArray }) ↑i (Value.int .u8 ↑c.toNat),Bn .eql 5 (.tmp 21) (.const (Value.int .u8 40)) (Value.int .u8 ↑c.toNat) (Value.int .u8 40) bF,Bn .eql 5 (.tmp 29) (.const (Value.int .u8 41)) (Value.int .u8 ↑c.toNat) (Value.int .u8 41) bF,Bn .eql 5 (.tmp 37) (.const (Value.int .u8 39)) (Value.int .u8 ↑c.toNat) (Value.int .u8 39) bF,Bn .eql 5 (.tmp 45) (.const (Value.int .u8 34)) (Value.int .u8 ↑c.toNat) (Value.int .u8 34) bF,Bn .eql 5 (.tmp 73) (.const (Value.int .u8 124)) (Value.int .u8 ↑c.toNat) (Value.int .u8 124) bF,Puk 181 [(.dt (.val (Value.int .u8 ↑c.toNat)))] (boA true),Puk 182 [(stA s),(inA ↑i)] (inA ↑e),SlcS ({ data:=s.toArray:ByteArray }) ((some ↑i).getD 0) ((some ↑e).getD ↑{ data:=s.toArray:ByteArray }.size) (str w),Puk 178 [(stA s),(inA ↑e),(.dt (.val (Value.int .u8 58))),(.dt (.val (Value.int .u8 58)))] (boA false),Puk 184 [(stA w)] (.tup [(stA w),(stA [49]),(boA true)]),Bn .eql 9 (.tmp 131) (.const (Value.string { data:=#[46]:ByteArray })) (str w) (str [46]) bF,Puk 185 [(stA [49])] (stA [49]),Bn .eql 9 (.tmp 137) (.const (Value.string { data:=#[48]:ByteArray })) (str [49]) (str [48]) bF,Puk 185 [(stA w)] (stA w),Puk 185 [(stA [49])] (stA [49]),Puk 72 [(stA w),(stA [49])] (.tup [(stA w),(stA [49])]),Puk 186 [(stA w)] (inA 1),Bn .gtr 3 (.tmp 156) (.const (vi 100)) (vi 1) (vi 100) bF,Puk 186 [(stA [49])] (inA 1),Bn .gtr 3 (.tmp 161) (.const (vi 100)) (vi 1) (vi 100) bF]) Tryz.func125 (by kernel_rfl) (by kernel_rfl) ⟨ix_s hc,bin_ieq (ne_u8 n1),bin_ieq (ne_u8 n2),bin_ieq (ne_u8 n3),bin_ieq (ne_u8 n4),bin_ieq (ne_u8 n5),hcst ▸ p_cst c,hwd,slc_w hw he hlw,p_hasF (a:=58) (b:=58) hl (by omega) h58,hn,bin_seq (decide_eq_false h46),p_plain1,bin_seq (by decide),hp,p_plain1,hr,hd,bin_igt (by decide),hd1,bin_igt (by decide),trivial⟩
end Go.Proofs.YthhknjlmjefklaaGreatDoor
namespace Go.Proofs.YthhknjlmjefklaaGreatDoor
open Go.RowKit
structure Txt (s:List UInt8):Prop where
 len:s.length≤6000
 few:∀ c∈s,Rdr.few c=true
theorem few_ne {c:UInt8} (h:Rdr.few c=true):(c == 59)=false∧(c == 35)=false∧(c == 58)=false:=by
 have ne:∀ k:UInt8,Rdr.few k=false→(c == k)=false:=fun k hk=>by
  rw [beq_eq_false_iff_ne]
  intro e
  rw [e,hk] at h
  cases h
 exact ⟨ne 59 (by decide),ne 35 (by decide),ne 58 (by decide)⟩
theorem few_cst {c:UInt8} (h:Rdr.few c=true) (hb:Rdr.blk c=false) (h40:c≠40) (h41:c≠41):Rdr.cst c=true:=by
 unfold Rdr.few at h
 rw [hb,beq_eq_false_iff_ne.2 h40,beq_eq_false_iff_ne.2 h41] at h
 simp only [Bool.false_or,Bool.and_eq_true] at h
 exact h.1.1.1
theorem p_oneWord {s:List UInt8} (hs:Txt s) {i:Nat} {c:UInt8} (hc:s[i]?=some c) (hcst:Rdr.cst c=true) (hok:Rdr.wOK ((s.drop i).takeWhile Rdr.cst)=true):Puk 125 [stA s,inA i] (.tup [tokA (Rdr.wTok i ((s.drop i).takeWhile Rdr.cst)),inA ((i+((s.drop i).takeWhile Rdr.cst).length:Nat):Int),seA]):=by
 have h58:∀ c∈s,(c == 58)=false:=fun c hc=>(few_ne (hs.few c hc)).2.2
 generalize hw:(s.drop i).takeWhile Rdr.cst=w at *
 unfold Rdr.wOK at hok
 unfold Rdr.wTok
 cases hn:Rdr.isNum w with
 | true =>
  rw [if_pos rfl]
  rw [hn,if_pos rfl] at hok
  simp only [Bool.or_eq_true,beq_iff_eq] at hok
  have d1:Puk 186 [stA [49]] (inA 1):=p_digN (k:=1) (by decide) (by decide +kernel)
  rcases hok with (rfl | rfl) | rfl
  ·exact p_oneN hc hs.len hcst hw rfl h58 p_num0 p_plain0 (p_red (by decide) (by decide) (by decide +kernel) (by decide +kernel)) (p_digN (k:=1) (by decide) (by decide +kernel)) d1 (by decide)
  ·exact p_oneN hc hs.len hcst hw rfl h58 p_num1 p_plain1 (p_red (by decide) (by decide) (by decide +kernel) (by decide +kernel)) (p_digN (k:=1) (by decide) (by decide +kernel)) d1 (by decide)
  ·exact p_oneN hc hs.len hcst hw rfl h58 p_numM p_plainM (p_red (by decide) (by decide) (by decide +kernel) (by decide +kernel)) (p_digN (k:=1) (by decide) (by decide +kernel)) d1 (by decide)
 | false =>
  rw [if_neg (by decide)]
  rw [hn,if_neg (by decide)] at hok
  simp only [Bool.and_eq_true,decide_eq_true_eq,Bool.not_eq_true',beq_eq_false_iff_ne] at hok
  obtain ⟨⟨h40,hh⟩,h46⟩:=hok
  cases w with
  | nil=>cases hh
  | cons d r =>
   simp only [Bool.and_eq_true,Bool.not_eq_true'] at hh
   exact p_oneW hc hs.len hcst hw rfl h58 (p_numN (c:=d) rfl hh.1 hh.2 (by omega)) h46 h40
abbrev toksA (l:List Rdr.Tok):AV:=.dt (.row (l.map tokC))
abbrev tkS (s:List UInt8) (es:List (List Dt)) (i:Int):AS:=⟨stt 53 [(0,stA s),(3,.ptr 0 0),(4,.own 1 es.length),(5,inA i)],[some (.cells [inA 0,inA 0]),some (.buf 166 5 es)]⟩
abbrev tkR (es:List (List Dt)):AS:=⟨stt 53 [(2,.own 1 es.length),(3,.ptr 0 0)],[some (.cells [inA 0,inA 0]),some (.buf 166 5 es)]⟩
noncomputable abbrev tkB:Code:=subC (bodyOf Tryz.f98) [1,1,1,1,0,0]
theorem src_tok (t:Rdr.Tok):SrcOK 5 [tokC t]:=by
 intro x hx
 rw [List.mem_singleton] at hx
 subst hx
 refine ⟨rfl,fun d hd=>?_⟩
 simp only [List.mem_cons,List.not_mem_nil,or_false] at hd
 rcases hd with rfl | rfl | rfl | rfl | rfl <;> rfl
theorem tkB1 {s:List UInt8} {es:List (List Dt)} {i n e:Nat} {t:Rdr.Tok} (h1:Puk 124 [stA s,inA i] (.tup [inA n,boA true])) (hn:n < s.length) (h2:Puk 125 [stA s,inA n] (.tup [tokA t,inA e,seA])) (he:es.length≤10000):Tri EX tkB (tkS s es i) .nxt (tkS s (es++[tokC t]) e) :=
 twalk (c:=subC (bodyOf Tryz.f98) [1,1,1,1,0,0]) (s:=tkS s es i) (an:=[.av (.tup [inA n,boA true]),.av (inA s.length),yF,.av (.tup [tokA t,inA e,seA]),.no,.av (.un)]) (ls:=[]) (ft:=[0,3,4,5]) (nb:=2) (e:=.nxt) (s':=tkS s (es++[tokC t]) e) (ps:=[Puk 124 [(stA s),(inA ↑i)] (.tup [(inA ↑n),(boA true)]),(vi ↑s.length)=(vi (↑s.length)),Bn .geq 3 (.tmp 26) (.tmp 28) (vi ↑n) (vi ↑s.length) bF,Puk 125 [(stA s),(inA ↑n)] (.tup [(.agg [(inA t.kind),(inA ↑t.pos),(stA []),(stA t.text),(stA t.den)]),(inA ↑e),(.agg [(inA 0),(inA 0)])]),(es.length)=(es.length),FitB 64 ((es++[[Dt.val (vi t.kind),Dt.val (vi ↑t.pos),Dt.val (str []),Dt.val (str t.text),Dt.val (str t.den)]]).length),SrcOK 5 [[(.val (vi t.kind)),(.val (vi ↑t.pos)),(.val (str [])),(.val (str t.text)),(.val (str t.den))]]]) (by kernel_rfl)
  ⟨h1,lenS _,bin_ige (decide_eq_false (by omega)),h2,rfl,fit_of (by omega) (by simp;omega),src_tok t,trivial⟩
theorem tkB2 {s:List UInt8} {es:List (List Dt)} {i n:Nat} (h1:Puk 124 [stA s,inA i] (.tup [inA n,boA true])) (hn:s.length≤n) (he:es.length≤10000):Tri EX tkB (tkS s es i) .ret (tkR (es++[tokC ⟨0,s.length,[],[]⟩])) :=
 twalk (c:=subC (bodyOf Tryz.f98) [1,1,1,1,0,0]) (s:=tkS s es i) (an:=[.av (.tup [inA n,boA true]),.av (inA s.length),yT,.av (inA s.length),.av (.un)]) (ls:=[]) (ft:=[2,3]) (nb:=2) (e:=.ret) (s':=tkR (es++[tokC ⟨0,s.length,[],[]⟩])) (ps:=[Puk 124 [(stA s),(inA ↑i)] (.tup [(inA ↑n),(boA true)]),(vi ↑s.length)=(vi (↑s.length)),Bn .geq 3 (.tmp 26) (.tmp 28) (vi ↑n) (vi ↑s.length) bT,(vi ↑s.length)=(vi (↑s.length)),(es.length)=(es.length),FitB 64 ((es++[[Dt.val (vi 0),Dt.val (vi ↑s.length),Dt.val (Value.string { data:=#[]:ByteArray }),Dt.val (Value.string { data:=#[]:ByteArray }),Dt.val (Value.string { data:=#[]:ByteArray })]]).length),SrcOK 5 [[(.val (vi 0)),(.val (vi ↑s.length)),(.val (str [])),(.val (str [])),(.val (str []))]]]) (by kernel_rfl)
  ⟨h1,lenS _,bin_ige (decide_eq_true (by omega)),lenS _,rfl,fit_of (by omega) (by simp;omega),src_tok ⟨0,s.length,[],[]⟩,trivial⟩
theorem tk_loop {s:List UInt8} (hs:Txt s):∀ (N:Nat) (r:List UInt8) (i:Nat) (es:List (List Dt)),r.length≤N→s.drop i=r→i≤s.length→(∀ t∈Rdr.tk i r,t.kind=5∨t.kind=6→Rdr.wOK t.text=true)→es.length+r.length≤9000→Lps EX tkB (tkS s es i) .ret (tkR (es++(Rdr.tk i r).map tokC)):=by
 intro N
 induction N with
 | zero =>
  intro r i es hN hd hi hok hl
  obtain rfl:r=[]:=List.eq_nil_of_length_eq_zero (by omega)
  have e1:=congrArg List.length hd
  rw [List.length_drop,List.length_nil] at e1
  have h1:=p_skip hs.len (fun c hc=>(few_ne (hs.few c hc)).1) (fun c hc=>(few_ne (hs.few c hc)).2.1) hi
  rw [hd] at h1
  rw [Rdr.tk_nil,show i=s.length by omega]
  rw [show i=s.length by omega] at h1
  exact .stop (tkB2 h1 (Nat.le_refl _) (by omega)) (fun h=>by cases h)
 | succ N ih =>
  intro r i es hN hd hi hok hl
  have h1:=p_skip hs.len (fun c hc=>(few_ne (hs.few c hc)).1) (fun c hc=>(few_ne (hs.few c hc)).2.1) hi
  rw [hd] at h1
  rw [Rdr.tk_skip] at hok ⊢
  have hlen:=Rdr.len_take_drop Rdr.blk r
  have hrl:r.length=s.length - i:=by rw [← hd,List.length_drop]
  generalize hn:(r.takeWhile Rdr.blk).length=n at *
  have hd2:s.drop (i+n)=r.drop n:=by rw [← List.drop_drop,hd]
  have hb0:∀ c r2,r.drop n=c::r2→Rdr.blk c=false:=fun c r2 e=>by
   rw [← hn,Rdr.drop_tw] at e
   have:=List.head?_dropWhile_not Rdr.blk r
   rw [e] at this
   simpa using this
  cases hr:r.drop n with
  | nil =>
   have e1:=congrArg List.length hr
   rw [List.length_drop,List.length_nil] at e1
   have e2:i+n=s.length:=by omega
   rw [Rdr.tk_nil,e2]
   rw [e2] at h1
   exact .stop (tkB2 h1 (Nat.le_refl _) (by omega)) (fun h=>by cases h)
  | cons c r2 =>
   have hrn:(r.drop n).length=r2.length+1:=by rw [hr,List.length_cons]
   rw [List.length_drop] at hrn
   have hcs:s[i+n]?=some c:=by rw [← List.head?_drop,hd2,hr];rfl
   have hlt:=(List.getElem?_eq_some_iff.1 hcs).1
   have hfc:=hs.few c (List.mem_of_getElem? hcs)
   have hnb:=hb0 c r2 hr
   have hd3:s.drop (i+n+1)=r2:=by rw [← List.drop_drop,hd2,hr];rfl
   rw [hr] at hok
   by_cases h40:c=40
   ·subst h40
    rw [Rdr.tk_open] at hok ⊢
    have:=ih r2 (i+n+1) (es++[tokC ⟨1,i+n,[],[]⟩]) (by omega) hd3 (by omega) (fun t ht=>hok t (List.mem_cons_of_mem _ ht)) (by rw [List.length_append,List.length_singleton];omega)
    rw [List.append_assoc] at this
    exact .more (tkB1 h1 hlt (p_oneO hcs hs.len) (by omega)) this
   by_cases h41:c=41
   ·subst h41
    rw [Rdr.tk_close] at hok ⊢
    have:=ih r2 (i+n+1) (es++[tokC ⟨2,i+n,[],[]⟩]) (by omega) hd3 (by omega) (fun t ht=>hok t (List.mem_cons_of_mem _ ht)) (by rw [List.length_append,List.length_singleton];omega)
    rw [List.append_assoc] at this
    exact .more (tkB1 h1 hlt (p_oneC hcs hs.len) (by omega)) this
   have hcst:=few_cst hfc hnb h40 h41
   rw [Rdr.tk_word hcst] at hok ⊢
   have hw:(s.drop (i+n)).takeWhile Rdr.cst=(c::r2).takeWhile Rdr.cst:=by rw [hd2,hr]
   have hpos:1≤((c::r2).takeWhile Rdr.cst).length:=by rw [List.takeWhile_cons,if_pos hcst,List.length_cons];omega
   have hwl:=Rdr.len_take_drop Rdr.cst (c::r2)
   rw [List.length_cons] at hwl
   have hk:=hok _ (List.mem_cons_self ..)
   have hwok:Rdr.wOK ((c::r2).takeWhile Rdr.cst)=true:=by
    unfold Rdr.wTok at hk
    split at hk
    ·exact hk (.inl rfl)
    ·exact hk (.inr rfl)
   have h2:=p_oneWord hs hcs hcst (by rw [hw];exact hwok)
   rw [hw] at h2
   have:=ih ((c::r2).drop ((c::r2).takeWhile Rdr.cst).length) (i+n+((c::r2).takeWhile Rdr.cst).length) (es++[tokC (Rdr.wTok (i+n) ((c::r2).takeWhile Rdr.cst))]) (by rw [List.length_drop,List.length_cons];omega) (by rw [← List.drop_drop,hd2,hr]) (by omega) (fun t ht=>hok t (List.mem_cons_of_mem _ ht)) (by rw [List.length_append,List.length_singleton,List.length_drop,List.length_cons];omega)
   rw [List.append_assoc] at this
   exact .more (tkB1 h1 hlt h2 (by omega)) this
theorem p_Tokens {s:List UInt8} (hs:Txt s) (hok:∀ t∈Rdr.tk 0 s,t.kind=5∨t.kind=6→Rdr.wOK t.text=true):Puk 98 [stA s] (.tup [toksA (Rdr.tk 0 s),seA]):=by
 have hl:=hs.len
 have h:=(tk_loop hs s.length s 0 [] (Nat.le_refl _) rfl (Nat.zero_le _) hok (by rw [List.length_nil];omega)).tri
 have ht:Tri EX (.loop tkB) ⟨stt 53 [(0,stA s),(3,.ptr 0 0),(4,.nil),(5,inA 0)],[some (.cells [inA 0,inA 0])]⟩ .ret (tkR ((Rdr.tk 0 s).map tokC)):=Tri.own0 4 166 5 (by show 4 < 53;omega) rfl h
 generalize (Rdr.tk 0 s).map tokC=es at *
 exact pwalk (an:=[.av (inA s.length),yF]) (ls:=[.inv [0,3,4,5] 1 (.ret) (tkR es)]) (ps:=[(vi ↑s.length)=(vi (↑s.length)),Bn .gtr 3 (.tmp 12) (.const (vi 6000)) (vi ↑s.length) (vi 6000) bF,Tri EX (.loop (subC (bodyOf Tryz.f98) [1,1,1,1,0,0])) (⟨stt 53 [(0,stA s),(3,.ptr 0 0),(4,.nil),(5,inA 0)],[some (.cells [inA 0,inA 0])]⟩) (.ret) (tkR es),(es.length)=(es.length)]) Tryz.func98 (by kernel_rfl) (by kernel_rfl) ⟨lenS _,bin_igt (decide_eq_false (by omega)),ht,rfl,trivial⟩
end Go.Proofs.YthhknjlmjefklaaGreatDoor
namespace Go.Proofs.YthhknjlmjefklaaGreatDoor
open Go.RowKit
open Te
theorem frm_eq (t:Te):frm t=(if t.kind=1 then varB t.np t.nn && decide (t.val=zOb) && decide (t.args.length=0)
  else if t.kind=2 then (decide (t.np=[]) && decide (t.nn=[])) && t.val.validB && decide (t.args.length=0)
  else if t.kind=3 then symOk ⟨t.np,t.nn⟩ && decide (t.val=zOb) && decide (t.args.length≤8) && frmL t.args
  else false):=by obtain ⟨k,p,n,o,l⟩:=t;rw [frm]
end Go.Proofs.YthhknjlmjefklaaGreatDoor
namespace Go.Proofs.YthhknjlmjefklaaGreatDoor
open Go.RowKit
open Te
theorem p_args (t:Te):Puk 225 [teA t] (if t.kind=3 then tesA t.args else .dt (.row [])):=by
 by_cases h:t.kind=3
 ·rw [if_pos h]
  exact pwalk (an:=[yF]) (ls:=[]) (ps:=[Bn .neq 3 (.tmp 4) (.const (vi 3)) (vi t.kind) (vi 3) bF]) Tryz.func225 (by kernel_rfl) (by kernel_rfl) ⟨bin_ine (by simp [h]),trivial⟩
 ·rw [if_neg h]
  exact pwalk (an:=[yT]) (ls:=[]) (ps:=[Bn .neq 3 (.tmp 4) (.const (vi 3)) (vi t.kind) (vi 3) bT]) Tryz.func225 (by kernel_rfl) (by kernel_rfl) ⟨bin_ine (by simp [h]),trivial⟩
abbrev ctS (l:List Te) (m n i:Int):AS:=⟨stt 40 [(1,inA m),(5,inA n),(6,tesA l),(7,inA i)],[]⟩
abbrev ctE (n:Int):AS:=⟨stt 40 [(5,inA n)],[]⟩
noncomputable abbrev ctB:Code:=subC (bodyOf Tryz.f191) [1,1,1,1,0,1,0,0]
theorem ctB1 {l:List Te} {x:Te} {m n k:Int} {i:Nat} (hx:l[i]?=some x) (hl:l.length≤9223372036854775807) (hm:m≤3001) (hn:1≤n) (h0:n < m) (hk0:0≤k) (hk1:k≤3001) (h:Puk 191 [teA x,inA (m - n)] (inA k)):Tri EX ctB (ctS l m n i) .nxt (ctS l m (n+k) ((i+1:Nat):Int)) :=
 twalk (c:=subC (bodyOf Tryz.f191) [1,1,1,1,0,1,0,0]) (s:=ctS l m n i) (an:=[.av (inA l.length),yT,yT,.av (.pin ((encT x).map .dt)),.av (inA (m - n)),.av (inA k),.av (inA (n+k)),.av (inA ((i+1:Nat):Int))]) (ls:=[]) (ft:=[1,5,6,7]) (nb:=0) (e:=.nxt) (s':=ctS l m (n+k) ((i+1:Nat):Int)) (ps:=[(vi ↑l.length)=(vi (↑(List.map Te.enc l).length)),Bn .lss 3 (.tmp 18) (.tmp 20) (vi ↑i) (vi ↑l.length) bT,Bn .lss 3 (.tmp 23) (.tmp 24) (vi n) (vi m) bT,IxAt (List.map Te.enc l) ↑i 11 (encT x),Bn .sub 3 (.tmp 34) (.tmp 35) (vi m) (vi n) (vi (m - n)),Puk 191 [(teA x),(inA (m - n))] (inA k),Bn .add 3 (.tmp 29) (.tmp 37) (vi n) (vi k) (vi (n+k)),Bn .add 3 (.tmp 27) (.const (vi 1)) (vi ↑i) (vi 1) (vi (↑(i+1)))]) (by kernel_rfl)
  ⟨lenEncT _,bin_ilt (decide_eq_true (by have:=(List.getElem?_eq_some_iff.1 hx).1;omega)),bin_ilt (decide_eq_true h0),ix_te hx,bin_isub rfl (by omega) (by omega),h,bin_iadd rfl (by omega) (by omega),bin_iadd (by omega) (by omega) (by have:=(List.getElem?_eq_some_iff.1 hx).1;omega),trivial⟩
theorem ctB2 {l:List Te} {m n:Int} {i:Nat} (hi:i=l.length):Tri EX ctB (ctS l m n i) (.out 0) (ctE n) :=
 twalk (c:=subC (bodyOf Tryz.f191) [1,1,1,1,0,1,0,0]) (s:=ctS l m n i) (an:=[.av (inA l.length),yF]) (ls:=[]) (ft:=[5]) (nb:=0) (e:=.out 0) (s':=ctE n) (ps:=[(vi ↑l.length)=(vi (↑(List.map Te.enc l).length)),Bn .lss 3 (.tmp 18) (.tmp 20) (vi ↑i) (vi ↑l.length) bF]) (by kernel_rfl)
  ⟨lenEncT _,bin_ilt (decide_eq_false (by omega)),trivial⟩
theorem ctB3 {l:List Te} {m n:Int} {i:Nat} (hi:i < l.length) (h0:¬ n < m):Tri EX ctB (ctS l m n i) (.out 0) (ctE n) :=
 twalk (c:=subC (bodyOf Tryz.f191) [1,1,1,1,0,1,0,0]) (s:=ctS l m n i) (an:=[.av (inA l.length),yT,yF]) (ls:=[]) (ft:=[5]) (nb:=0) (e:=.out 0) (s':=ctE n) (ps:=[(vi ↑l.length)=(vi (↑(List.map Te.enc l).length)),Bn .lss 3 (.tmp 18) (.tmp 20) (vi ↑i) (vi ↑l.length) bT,Bn .lss 3 (.tmp 23) (.tmp 24) (vi n) (vi m) bF]) (by kernel_rfl)
  ⟨lenEncT _,bin_ilt (decide_eq_true (by omega)),bin_ilt (decide_eq_false h0),trivial⟩
theorem ct_loop {l:List Te} {m:Int} (hl:l.length≤9223372036854775807) (hm:m≤3001) (h:∀ x∈l,∀ m:Int,1≤m→m≤3001→Puk 191 [teA x,inA m] (inA (cnt x m))):∀ (s:List Te) (i:Nat) (n:Int),l.drop i=s→i≤l.length→1≤n→n≤m→Lps EX ctB (ctS l m n i) (.out 0) (ctE (cntL s m n)):=by
 intro s
 induction s with
 | nil =>
  intro i n hd hi hn hn2
  have e1:=congrArg List.length hd
  rw [List.length_drop,List.length_nil] at e1
  rw [cntL]
  exact .stop (ctB2 (by omega)) (fun h=>by cases h)
 | cons x s ih =>
  intro i n hd hi hn hn2
  have hx:l[i]?=some x:=by rw [← List.head?_drop,hd];rfl
  have hlt:=(List.getElem?_eq_some_iff.1 hx).1
  have hd2:l.drop (i+1)=s:=by rw [← List.drop_drop,hd];rfl
  rw [cntL]
  by_cases h0:n < m
  ·rw [if_pos h0]
   have hr:=cnt_law x (m - n) (by omega) (by omega)
   exact .more (ctB1 hx hl hm hn h0 (by omega) (by omega) (h x (List.mem_of_getElem? hx) (m - n) (by omega) (by omega))) (ih (i+1) _ hd2 (by omega) (by omega) (by omega))
  ·rw [if_neg h0]
   exact .stop (ctB3 hlt h0) (fun h=>by cases h)
theorem cnt_eq (t:Te) (m:Int):cnt t m=if t.kind=2 then min m (nodesP t.val) else cntL (if t.kind=3 then t.args else []) m 1:=by
 obtain ⟨k,p,n,o,l⟩:=t
 rw [cnt]
 split
 ·rfl
 ·split
  ·rfl
  ·rw [cntL]
theorem p_cnt:∀ (N:Nat) (t:Te) (m:Int),t.size≤N→t.Bd→1≤m→m≤3001→Puk 191 [teA t,inA m] (inA (cnt t m)):=by
 intro N
 induction N with
 | zero=>intro t m h;have:=t.size_pos;omega
 | succ N ih =>
  intro t m hN hb h1 h2
  obtain ⟨hv,hs,hp,hn,hl⟩:=hb.parts
  have hkids:∀ x∈t.args,∀ m:Int,1≤m→m≤3001→Puk 191 [teA x,inA m] (inA (cnt x m)):=fun x hx m h1 h2=>ih x m (by have:=Te.size_args hx;omega) (hb.kids hx) h1 h2
  have hP:=nodesP_min t.val
  rw [cnt_eq]
  by_cases k2:t.kind=2
  ·rw [if_pos k2]
   exact pwalk (an:=[yT,.av (inA (nodesP t.val)),.av (inA (min m (nodesP t.val)))]) (ls:=[]) (ps:=[Bn .eql 3 (.tmp 9) (.const (vi 2)) (vi t.kind) (vi 2) bT,Puk 101 [(obA t.val)] (inA (nodesP t.val)),(vi (min m (nodesP t.val)))=(vi (if nodesP t.val < m then nodesP t.val else m))]) Tryz.func191 (by kernel_rfl) (by kernel_rfl) ⟨bin_ieq (yesD k2),p_rNodesO hv,by rw [show min m (nodesP t.val)=if nodesP t.val < m then nodesP t.val else m by split <;> omega],trivial⟩
  rw [if_neg k2]
  have ha:=p_args t
  by_cases k3:t.kind=3
  ·rw [if_pos k3] at ha ⊢
   have ht:=(ct_loop hl h2 hkids t.args 0 1 rfl (Nat.zero_le _) (by omega) h1).tri
   generalize cntL t.args m 1=r at *
   exact pwalk (an:=[yF,.av (tesA t.args)]) (ls:=[.inv [1,5,6,7] 0 (.out 0) (ctE r)]) (ps:=[Bn .eql 3 (.tmp 9) (.const (vi 2)) (vi t.kind) (vi 2) bF,Puk 225 [(teA t)] (.dt (.row (List.map Te.enc t.args))),Tri EX (.loop (subC (bodyOf Tryz.f191) [1,1,1,1,0,1,0,0])) (ctS t.args m 1 0) (.out 0) (ctE r)]) Tryz.func191 (by kernel_rfl) (by kernel_rfl) ⟨bin_ieq (noD k2),ha,ht,trivial⟩
  ·rw [if_neg k3] at ha ⊢
   have ht:=(ct_loop (l:=[]) (by decide) h2 (fun x hx=>by cases hx) [] 0 1 rfl (Nat.zero_le _) (by omega) h1).tri
   generalize cntL [] m 1=r at *
   exact pwalk (an:=[yF,.av (.dt (.row []))]) (ls:=[.inv [1,5,6,7] 0 (.out 0) (ctE r)]) (ps:=[Bn .eql 3 (.tmp 9) (.const (vi 2)) (vi t.kind) (vi 2) bF,Puk 225 [(teA t)] (.dt (.row [])),Tri EX (.loop (subC (bodyOf Tryz.f191) [1,1,1,1,0,1,0,0])) (ctS [] m 1 0) (.out 0) (ctE r)]) Tryz.func191 (by kernel_rfl) (by kernel_rfl) ⟨bin_ieq (noD k2),ha,ht,trivial⟩
theorem p_rNodes {t:Te} (hb:t.Bd):Puk 138 [teA t] (inA ((min t.nods 3001:Nat):Int)):=by
 have h:=p_cnt _ t 3001 (Nat.le_refl _) hb (by omega) (by omega)
 rw [cnt_law t 3001 (by omega) (by omega),show min (3001:Int) (t.nods:Int)=((min t.nods 3001:Nat):Int) by omega] at h
 generalize ((min t.nods 3001:Nat):Int)=r at *
 exact pwalk (an:=[.av (inA r)]) (ls:=[]) (ps:=[Puk 191 [(teA t),(inA 3001)] (inA r)]) Tryz.func138 (by kernel_rfl) (by kernel_rfl) ⟨h,trivial⟩
abbrev deS (l:List Te) (m d i:Int):AS:=⟨stt 31 [(1,inA m),(5,inA d),(6,tesA l),(7,inA i)],[]⟩
abbrev deE (d:Int):AS:=⟨stt 31 [(5,inA d)],[]⟩
noncomputable abbrev deB:Code:=subC (bodyOf Tryz.f192) [1,1,1,0,1,0,0]
theorem deB1 {l:List Te} {x:Te} {m d k j:Int} {i:Nat} (hx:l[i]?=some x) (hl:l.length≤9223372036854775807) (h0:1 < m) (hm:m≤1000) (h:Puk 192 [teA x,inA (m - 1)] (inA k)) (hj:j=if k > d then k else d):Tri EX deB (deS l m d i) .nxt (deS l m j ((i+1:Nat):Int)) :=
 twalk (c:=subC (bodyOf Tryz.f192) [1,1,1,0,1,0,0]) (s:=deS l m d i) (an:=[.av (inA l.length),yT,yT,.av (.pin ((encT x).map .dt)),.av (inA (m - 1)),.av (inA k),.av (inA j),.av (inA ((i+1:Nat):Int))]) (ls:=[]) (ft:=[1,5,6,7]) (nb:=0) (e:=.nxt) (s':=deS l m j ((i+1:Nat):Int)) (ps:=[(vi ↑l.length)=(vi (↑(List.map Te.enc l).length)),Bn .lss 3 (.tmp 10) (.tmp 12) (vi ↑i) (vi ↑l.length) bT,Bn .gtr 3 (.tmp 15) (.const (vi 1)) (vi m) (vi 1) bT,IxAt (List.map Te.enc l) ↑i 11 (encT x),Bn .sub 3 (.tmp 25) (.const (vi 1)) (vi m) (vi 1) (vi (m - 1)),Puk 192 [(teA x),(inA (m - 1))] (inA k),(vi j)=(vi (if k > d then k else d)),Bn .add 3 (.tmp 18) (.const (vi 1)) (vi ↑i) (vi 1) (vi (↑(i+1)))]) (by kernel_rfl)
  ⟨lenEncT _,bin_ilt (decide_eq_true (by have:=(List.getElem?_eq_some_iff.1 hx).1;omega)),bin_igt (decide_eq_true h0),ix_te hx,bin_isub rfl (by omega) (by omega),h,by rw [hj],bin_iadd (by omega) (by omega) (by have:=(List.getElem?_eq_some_iff.1 hx).1;omega),trivial⟩
theorem deB2 {l:List Te} {m d:Int} {i:Nat} (hi:i=l.length):Tri EX deB (deS l m d i) (.out 0) (deE d) :=
 twalk (c:=subC (bodyOf Tryz.f192) [1,1,1,0,1,0,0]) (s:=deS l m d i) (an:=[.av (inA l.length),yF]) (ls:=[]) (ft:=[5]) (nb:=0) (e:=.out 0) (s':=deE d) (ps:=[(vi ↑l.length)=(vi (↑(List.map Te.enc l).length)),Bn .lss 3 (.tmp 10) (.tmp 12) (vi ↑i) (vi ↑l.length) bF]) (by kernel_rfl)
  ⟨lenEncT _,bin_ilt (decide_eq_false (by omega)),trivial⟩
theorem deB3 {l:List Te} {m d:Int} {i:Nat} (hi:i < l.length) (h0:¬ 1 < m):Tri EX deB (deS l m d i) (.out 0) (deE d) :=
 twalk (c:=subC (bodyOf Tryz.f192) [1,1,1,0,1,0,0]) (s:=deS l m d i) (an:=[.av (inA l.length),yT,yF]) (ls:=[]) (ft:=[5]) (nb:=0) (e:=.out 0) (s':=deE d) (ps:=[(vi ↑l.length)=(vi (↑(List.map Te.enc l).length)),Bn .lss 3 (.tmp 10) (.tmp 12) (vi ↑i) (vi ↑l.length) bT,Bn .gtr 3 (.tmp 15) (.const (vi 1)) (vi m) (vi 1) bF]) (by kernel_rfl)
  ⟨lenEncT _,bin_ilt (decide_eq_true (by omega)),bin_igt (decide_eq_false h0),trivial⟩
theorem de_loop {l:List Te} {m:Int} (hl:l.length≤9223372036854775807) (hm:m≤1000) (h:∀ x∈l,1 < m→Puk 192 [teA x,inA (m - 1)] (inA (dee x (m - 1)))):∀ (s:List Te) (i:Nat) (d:Int),l.drop i=s→i≤l.length→Lps EX deB (deS l m d i) (.out 0) (deE (deeL s m d)):=by
 intro s
 induction s with
 | nil =>
  intro i d hd hi
  have e1:=congrArg List.length hd
  rw [List.length_drop,List.length_nil] at e1
  rw [deeL]
  exact .stop (deB2 (by omega)) (fun h=>by cases h)
 | cons x s ih =>
  intro i d hd hi
  have hx:l[i]?=some x:=by rw [← List.head?_drop,hd];rfl
  have hlt:=(List.getElem?_eq_some_iff.1 hx).1
  have hd2:l.drop (i+1)=s:=by rw [← List.drop_drop,hd];rfl
  rw [deeL]
  by_cases h0:1 < m
  ·rw [if_pos h0]
   exact .more (deB1 hx hl h0 hm (h x (List.mem_of_getElem? hx) h0) (by split <;> omega)) (ih (i+1) _ hd2 (by omega))
  ·rw [if_neg h0]
   exact .stop (deB3 hlt h0) (fun h=>by cases h)
theorem dee_eq (t:Te) (m:Int):dee t m=deeL (if t.kind=3 then t.args else []) m 0+1:=by
 obtain ⟨k,p,n,o,l⟩:=t
 rw [dee]
 split
 ·rfl
 ·rw [deeL];rfl
theorem p_dee:∀ (N:Nat) (t:Te) (m:Int),t.size≤N→t.Bd→1≤m→m≤1000→Puk 192 [teA t,inA m] (inA (dee t m)):=by
 intro N
 induction N with
 | zero=>intro t m h;have:=t.size_pos;omega
 | succ N ih =>
  intro t m hN hb h1 h2
  obtain ⟨hv,hs,hp,hn,hl⟩:=hb.parts
  have hb1:=dee_law t m h1
  have hdp:=t.dep_pos
  rw [dee_eq] at hb1 ⊢
  have ha:=p_args t
  by_cases k3:t.kind=3
  ·rw [if_pos k3] at ha hb1 ⊢
   have ht:=(de_loop hl h2 (fun x hx h0=>ih x (m - 1) (by have:=Te.size_args hx;omega) (hb.kids hx) (by omega) (by omega)) t.args 0 0 rfl (Nat.zero_le _)).tri
   generalize deeL t.args m 0=r at *
   exact pwalk (an:=[.av (tesA t.args),.av (inA (r+1))]) (ls:=[.inv [1,5,6,7] 0 (.out 0) (deE r)]) (ps:=[Puk 225 [(teA t)] (.dt (.row (List.map Te.enc t.args))),Tri EX (.loop (subC (bodyOf Tryz.f192) [1,1,1,0,1,0,0])) (deS t.args m 0 0) (.out 0) (deE r),Bn .add 3 (.tmp 29) (.const (vi 1)) (vi r) (vi 1) (vi (r+1))]) Tryz.func192 (by kernel_rfl) (by kernel_rfl) ⟨ha,ht,bin_iadd rfl (by omega) (by omega),trivial⟩
  ·rw [if_neg k3] at ha hb1 ⊢
   have ht:=(de_loop (l:=[]) (by decide) h2 (fun x hx=>by cases hx) [] 0 0 rfl (Nat.zero_le _)).tri
   generalize deeL [] m 0=r at *
   exact pwalk (an:=[.av (.dt (.row [])),.av (inA (r+1))]) (ls:=[.inv [1,5,6,7] 0 (.out 0) (deE r)]) (ps:=[Puk 225 [(teA t)] (.dt (.row [])),Tri EX (.loop (subC (bodyOf Tryz.f192) [1,1,1,0,1,0,0])) (deS [] m 0 0) (.out 0) (deE r),Bn .add 3 (.tmp 29) (.const (vi 1)) (vi r) (vi 1) (vi (r+1))]) Tryz.func192 (by kernel_rfl) (by kernel_rfl) ⟨ha,ht,bin_iadd rfl (by omega) (by omega),trivial⟩
theorem p_rDepth {t:Te} (hb:t.Bd):Puk 139 [teA t] (inA ((min t.dep 201:Nat):Int)):=by
 have h:=p_dee _ t 201 (Nat.le_refl _) hb (by omega) (by omega)
 rw [dee_law t 201 (by omega),show min (201:Int) (t.dep:Int)=((min t.dep 201:Nat):Int) by omega] at h
 generalize ((min t.dep 201:Nat):Int)=r at *
 exact pwalk (an:=[.av (inA r)]) (ls:=[]) (ps:=[Puk 192 [(teA t),(inA 201)] (inA r)]) Tryz.func139 (by kernel_rfl) (by kernel_rfl) ⟨h,trivial⟩
end Go.Proofs.YthhknjlmjefklaaGreatDoor
namespace Go.Proofs.YthhknjlmjefklaaGreatDoor
open Go.RowKit
open Te
theorem zOb_r {o:Ob} (h:o.Wf):Puk 50 [obA o,obA zOb] (boA (decide (o=zOb))):=p_rEqO h zOb
theorem p_Variable (p n:List UInt8) (hp:p.length≤9223372036854775807) (hn:n.length≤9223372036854775807):Puk 129 [syA p n] (boA (varB p n)):=by
 have hs:=p_ref4V p n hp hn
 unfold varB
 cases h1:symOk ⟨p,n⟩ with
 | false =>
  rw [h1] at hs
  exact pwalk (an:=[yF]) (ls:=[]) (ps:=[Puk 155 [(syA p n)] (boA false)]) Tryz.func129 (by kernel_rfl) (by kernel_rfl) ⟨hs,trivial⟩
 | true =>
  rw [h1] at hs
  cases h2:decide (p=lispB) && decide (n=nilB) with
  | true=>exact pwalk (an:=[yT,.av (syA lispB nilB),yF]) (ls:=[]) (ps:=[Puk 155 [(syA p n)] (boA true),Puk 29 [(stA [110,105,108])] (syA lispB nilB),Bn .neq 28 (.tmp 6) (.tmp 7) (Value.agg #[str p,str n]) (Value.agg #[str lispB,str nilB]) bF]) Tryz.func129 (by kernel_rfl) (by kernel_rfl) ⟨hs,p_lisp _,bin_syne h2,trivial⟩
  | false =>
   cases h3:decide (p=lispB) && decide (n=[116]) with
   | true=>exact pwalk (an:=[yT,.av (syA lispB nilB),yT,.av (syA lispB [116]),yF]) (ls:=[]) (ps:=[Puk 155 [(syA p n)] (boA true),Puk 29 [(stA [110,105,108])] (syA lispB nilB),Bn .neq 28 (.tmp 6) (.tmp 7) (Value.agg #[str p,str n]) (Value.agg #[str lispB,str nilB]) bT,Puk 29 [(stA [116])] (syA lispB [116]),Bn .neq 28 (.tmp 11) (.tmp 12) (Value.agg #[str p,str n]) (Value.agg #[str lispB,str [116]]) bF]) Tryz.func129 (by kernel_rfl) (by kernel_rfl) ⟨hs,p_lisp _,bin_syne h2,p_lisp _,bin_syne h3,trivial⟩
   | false=>exact pwalk (an:=[yT,.av (syA lispB nilB),yT,.av (syA lispB [116]),yT]) (ls:=[]) (ps:=[Puk 155 [(syA p n)] (boA true),Puk 29 [(stA [110,105,108])] (syA lispB nilB),Bn .neq 28 (.tmp 6) (.tmp 7) (Value.agg #[str p,str n]) (Value.agg #[str lispB,str nilB]) bT,Puk 29 [(stA [116])] (syA lispB [116]),Bn .neq 28 (.tmp 11) (.tmp 12) (Value.agg #[str p,str n]) (Value.agg #[str lispB,str [116]]) bT]) Tryz.func129 (by kernel_rfl) (by kernel_rfl) ⟨hs,p_lisp _,bin_syne h2,p_lisp _,bin_syne h3,trivial⟩
abbrev frS (t:Te) (i:Int):AS:=⟨stt 72 [(1,.ptr 0 0),(4,inA i)],[some (.cells ((encT t).map .dt))]⟩
abbrev frR (t:Te) (b:Bool):AS:=⟨stt 72 [(2,boA b)],[some (.cells ((encT t).map .dt))]⟩
abbrev frN (t:Te):AS:=⟨stt 72 [],[some (.cells ((encT t).map .dt))]⟩
noncomputable abbrev frB:Code:=subC (bodyOf Tryz.f140) [1,1,0,1,0,1,1,1,1,1,0,1,0,1,0,0]
theorem frB1 {t x:Te} {i:Nat} (hx:t.args[i]?=some x) (hl:t.args.length≤9223372036854775807) (h:Puk 140 [teA x] (boA true)):Tri EX frB (frS t i) .nxt (frS t ((i+1:Nat):Int)) :=
 twalk (c:=subC (bodyOf Tryz.f140) [1,1,0,1,0,1,1,1,1,1,0,1,0,1,0,0]) (s:=frS t i) (an:=[.av (inA t.args.length),yT,.av (.pin ((encT x).map .dt)),yT,.av (inA ((i+1:Nat):Int))]) (ls:=[]) (ft:=[1,4]) (nb:=1) (e:=.nxt) (s':=frS t ((i+1:Nat):Int)) (ps:=[(vi ↑t.args.length)=(vi (↑(List.map Te.enc t.args).length)),Bn .lss 3 (.tmp 58) (.tmp 61) (vi ↑i) (vi ↑t.args.length) bT,IxAt (List.map Te.enc t.args) ↑i 11 (encT x),Puk 140 [(teA x)] (boA true),Bn .add 3 (.tmp 63) (.const (vi 1)) (vi ↑i) (vi 1) (vi (↑(i+1)))]) (by kernel_rfl)
  ⟨lenEncT _,bin_ilt (decide_eq_true (by have:=(List.getElem?_eq_some_iff.1 hx).1;omega)),ix_te hx,h,bin_iadd (by omega) (by omega) (by have:=(List.getElem?_eq_some_iff.1 hx).1;omega),trivial⟩
theorem frB2 {t:Te} {i:Nat} (hi:i=t.args.length):Tri EX frB (frS t i) (.out 1) (frN t) :=
 twalk (c:=subC (bodyOf Tryz.f140) [1,1,0,1,0,1,1,1,1,1,0,1,0,1,0,0]) (s:=frS t i) (an:=[.av (inA t.args.length),yF]) (ls:=[]) (ft:=[]) (nb:=1) (e:=.out 1) (s':=frN t) (ps:=[(vi ↑t.args.length)=(vi (↑(List.map Te.enc t.args).length)),Bn .lss 3 (.tmp 58) (.tmp 61) (vi ↑i) (vi ↑t.args.length) bF]) (by kernel_rfl)
  ⟨lenEncT _,bin_ilt (decide_eq_false (by omega)),trivial⟩
theorem frB3 {t x:Te} {i:Nat} (hx:t.args[i]?=some x) (h:Puk 140 [teA x] (boA false)):Tri EX frB (frS t i) .ret (frR t false) :=
 twalk (c:=subC (bodyOf Tryz.f140) [1,1,0,1,0,1,1,1,1,1,0,1,0,1,0,0]) (s:=frS t i) (an:=[.av (inA t.args.length),yT,.av (.pin ((encT x).map .dt)),yF]) (ls:=[]) (ft:=[2]) (nb:=1) (e:=.ret) (s':=frR t false) (ps:=[(vi ↑t.args.length)=(vi (↑(List.map Te.enc t.args).length)),Bn .lss 3 (.tmp 58) (.tmp 61) (vi ↑i) (vi ↑t.args.length) bT,IxAt (List.map Te.enc t.args) ↑i 11 (encT x),Puk 140 [(teA x)] (boA false)]) (by kernel_rfl)
  ⟨lenEncT _,bin_ilt (decide_eq_true (by have:=(List.getElem?_eq_some_iff.1 hx).1;omega)),ix_te hx,h,trivial⟩
theorem fr_loop {t:Te} (hl:t.args.length≤9223372036854775807) (h:∀ x∈t.args,Puk 140 [teA x] (boA (frm x))):∀ (s:List Te) (i:Nat),t.args.drop i=s→i≤t.args.length→(frmL s=true→Lps EX frB (frS t i) (.out 1) (frN t))∧(frmL s=false→Lps EX frB (frS t i) .ret (frR t false)):=by
 intro s
 induction s with
 | nil =>
  intro i hd hi
  have e1:=congrArg List.length hd
  rw [List.length_drop,List.length_nil] at e1
  rw [frmL]
  exact ⟨fun _=>.stop (frB2 (by omega)) (fun h=>by cases h),fun h=>by cases h⟩
 | cons x s ih =>
  intro i hd hi
  have hx:t.args[i]?=some x:=by rw [← List.head?_drop,hd];rfl
  have hlt:=(List.getElem?_eq_some_iff.1 hx).1
  have hd2:t.args.drop (i+1)=s:=by rw [← List.drop_drop,hd];rfl
  obtain ⟨k1,k2⟩:=ih (i+1) hd2 (by omega)
  have hc:=h x (List.mem_of_getElem? hx)
  rw [frmL]
  cases b:frm x with
  | false =>
   rw [b] at hc
   exact ⟨fun e=>by simp at e,fun _=>.stop (frB3 hx hc) (fun h=>by cases h)⟩
  | true =>
   rw [b] at hc
   exact ⟨fun e=>.more (frB1 hx hl hc) (k1 (by simpa using e)),fun e=>.more (frB1 hx hl hc) (k2 (by simpa using e))⟩
theorem p_rFormed:∀ (N:Nat) (t:Te),t.size≤N→t.Bd→Puk 140 [teA t] (boA (frm t)):=by
 intro N
 induction N with
 | zero=>intro t h;have:=t.size_pos;omega
 | succ N ih =>
  intro t hN hb
  obtain ⟨hv,hs,hp,hn,hl⟩:=hb.parts
  rw [frm_eq]
  have h2:=zOb_r hv
  by_cases k1:t.kind=1
  ·rw [if_pos k1]
   have h1:=p_Variable t.np t.nn hp hn
   cases b2:decide (t.val=zOb) with
   | false =>
    rw [b2] at h2
    rw [Bool.and_false,Bool.false_and]
    exact pwalk (an:=[yF,yT]) (ls:=[]) (ps:=[Puk 50 [(obA t.val),(.agg [(inA 0),(stA []),(stA []),(stA []),(stA []),(stA []),(.dt (.row []))])] (boA false),Bn .eql 3 (.tmp 10) (.const (vi 1)) (vi t.kind) (vi 1) bT]) Tryz.func140 (by kernel_rfl) (by kernel_rfl) ⟨h2,bin_ieq (yesD k1),trivial⟩
   | true =>
    rw [b2] at h2
    cases b1:varB t.np t.nn with
    | false =>
     rw [b1] at h1
     exact pwalk (an:=[yT,yT,yF]) (ls:=[]) (ps:=[Puk 50 [(obA t.val),(.agg [(inA 0),(stA []),(stA []),(stA []),(stA []),(stA []),(.dt (.row []))])] (boA true),Bn .eql 3 (.tmp 10) (.const (vi 1)) (vi t.kind) (vi 1) bT,Puk 129 [(syA t.np t.nn)] (boA false)]) Tryz.func140 (by kernel_rfl) (by kernel_rfl) ⟨h2,bin_ieq (yesD k1),h1,trivial⟩
    | true =>
     rw [b1] at h1
     exact pwalk (an:=[yT,yT,yT,.av (inA t.args.length),.av (boA (decide (t.args.length=0)))]) (ls:=[]) (ps:=[Puk 50 [(obA t.val),(.agg [(inA 0),(stA []),(stA []),(stA []),(stA []),(stA []),(.dt (.row []))])] (boA true),Bn .eql 3 (.tmp 10) (.const (vi 1)) (vi t.kind) (vi 1) bT,Puk 129 [(syA t.np t.nn)] (boA true),(vi ↑t.args.length)=(vi (↑(List.map Te.enc t.args).length)),Bn .eql 3 (.tmp 22) (.const (vi 0)) (vi ↑t.args.length) (vi 0) (Value.bool (decide (t.args.length=0)))]) Tryz.func140 (by kernel_rfl) (by kernel_rfl) ⟨h2,bin_ieq (yesD k1),h1,lenEncT _,bin_ieq (by rw [decide_eq_decide];omega),trivial⟩
  rw [if_neg k1]
  by_cases k2:t.kind=2
  ·rw [if_pos k2]
   have h3:=p_rValidO hv hs
   cases b1:decide (t.np=[]) && decide (t.nn=[]) with
   | false=>exact pwalk (an:=[.av (boA (decide (t.val=zOb))),yF,yT,yF]) (ls:=[]) (ps:=[Puk 50 [(obA t.val),(.agg [(inA 0),(stA []),(stA []),(stA []),(stA []),(stA []),(.dt (.row []))])] (boA (decide (t.val=zOb))),Bn .eql 3 (.tmp 10) (.const (vi 1)) (vi t.kind) (vi 1) bF,Bn .eql 3 (.tmp 10) (.const (vi 2)) (vi t.kind) (vi 2) bT,Bn .eql 28 (.tmp 28) (.tmp 29) (Value.agg #[str t.np,str t.nn]) (Value.agg #[Value.string { data:=#[]:ByteArray },Value.string { data:=#[]:ByteArray }]) bF]) Tryz.func140 (by kernel_rfl) (by kernel_rfl) ⟨h2,bin_ieq (noD k1),bin_ieq (yesD k2),bin_syeq b1,trivial⟩
   | true =>
    cases b2:t.val.validB with
    | false =>
     rw [b2] at h3
     exact pwalk (an:=[.av (boA (decide (t.val=zOb))),yF,yT,yT,yF]) (ls:=[]) (ps:=[Puk 50 [(obA t.val),(.agg [(inA 0),(stA []),(stA []),(stA []),(stA []),(stA []),(.dt (.row []))])] (boA (decide (t.val=zOb))),Bn .eql 3 (.tmp 10) (.const (vi 1)) (vi t.kind) (vi 1) bF,Bn .eql 3 (.tmp 10) (.const (vi 2)) (vi t.kind) (vi 2) bT,Bn .eql 28 (.tmp 28) (.tmp 29) (Value.agg #[str t.np,str t.nn]) (Value.agg #[Value.string { data:=#[]:ByteArray },Value.string { data:=#[]:ByteArray }]) bT,Puk 118 [(obA t.val)] (boA false)]) Tryz.func140 (by kernel_rfl) (by kernel_rfl) ⟨h2,bin_ieq (noD k1),bin_ieq (yesD k2),bin_syeq b1,h3,trivial⟩
    | true =>
     rw [b2] at h3
     exact pwalk (an:=[.av (boA (decide (t.val=zOb))),yF,yT,yT,yT,.av (inA t.args.length),.av (boA (decide (t.args.length=0)))]) (ls:=[]) (ps:=[Puk 50 [(obA t.val),(.agg [(inA 0),(stA []),(stA []),(stA []),(stA []),(stA []),(.dt (.row []))])] (boA (decide (t.val=zOb))),Bn .eql 3 (.tmp 10) (.const (vi 1)) (vi t.kind) (vi 1) bF,Bn .eql 3 (.tmp 10) (.const (vi 2)) (vi t.kind) (vi 2) bT,Bn .eql 28 (.tmp 28) (.tmp 29) (Value.agg #[str t.np,str t.nn]) (Value.agg #[Value.string { data:=#[]:ByteArray },Value.string { data:=#[]:ByteArray }]) bT,Puk 118 [(obA t.val)] (boA true),(vi ↑t.args.length)=(vi (↑(List.map Te.enc t.args).length)),Bn .eql 3 (.tmp 39) (.const (vi 0)) (vi ↑t.args.length) (vi 0) (Value.bool (decide (t.args.length=0)))]) Tryz.func140 (by kernel_rfl) (by kernel_rfl) ⟨h2,bin_ieq (noD k1),bin_ieq (yesD k2),bin_syeq b1,h3,lenEncT _,bin_ieq (by rw [decide_eq_decide];omega),trivial⟩
  rw [if_neg k2]
  by_cases k3:t.kind=3
  ·rw [if_pos k3]
   have h1:=p_ref4V t.np t.nn hp hn
   cases b2:decide (t.val=zOb) with
   | false =>
    rw [b2] at h2
    rw [Bool.and_false,Bool.false_and,Bool.false_and]
    exact pwalk (an:=[yF,yF,yF,yT]) (ls:=[]) (ps:=[Puk 50 [(obA t.val),(.agg [(inA 0),(stA []),(stA []),(stA []),(stA []),(stA []),(.dt (.row []))])] (boA false),Bn .eql 3 (.tmp 10) (.const (vi 1)) (vi t.kind) (vi 1) bF,Bn .eql 3 (.tmp 10) (.const (vi 2)) (vi t.kind) (vi 2) bF,Bn .eql 3 (.tmp 10) (.const (vi 3)) (vi t.kind) (vi 3) bT]) Tryz.func140 (by kernel_rfl) (by kernel_rfl) ⟨h2,bin_ieq (noD k1),bin_ieq (noD k2),bin_ieq (yesD k3),trivial⟩
   | true =>
    rw [b2] at h2
    cases b1:symOk ⟨t.np,t.nn⟩ with
    | false =>
     rw [b1] at h1
     exact pwalk (an:=[yT,yF,yF,yT,yF]) (ls:=[]) (ps:=[Puk 50 [(obA t.val),(.agg [(inA 0),(stA []),(stA []),(stA []),(stA []),(stA []),(.dt (.row []))])] (boA true),Bn .eql 3 (.tmp 10) (.const (vi 1)) (vi t.kind) (vi 1) bF,Bn .eql 3 (.tmp 10) (.const (vi 2)) (vi t.kind) (vi 2) bF,Bn .eql 3 (.tmp 10) (.const (vi 3)) (vi t.kind) (vi 3) bT,Puk 155 [(syA t.np t.nn)] (boA false)]) Tryz.func140 (by kernel_rfl) (by kernel_rfl) ⟨h2,bin_ieq (noD k1),bin_ieq (noD k2),bin_ieq (yesD k3),h1,trivial⟩
    | true =>
     rw [b1] at h1
     cases b3:decide (t.args.length≤8) with
     | false =>
      have e:=of_decide_eq_false b3
      exact pwalk (an:=[yT,yF,yF,yT,yT,.av (inA t.args.length),yT]) (ls:=[]) (ps:=[Puk 50 [(obA t.val),(.agg [(inA 0),(stA []),(stA []),(stA []),(stA []),(stA []),(.dt (.row []))])] (boA true),Bn .eql 3 (.tmp 10) (.const (vi 1)) (vi t.kind) (vi 1) bF,Bn .eql 3 (.tmp 10) (.const (vi 2)) (vi t.kind) (vi 2) bF,Bn .eql 3 (.tmp 10) (.const (vi 3)) (vi t.kind) (vi 3) bT,Puk 155 [(syA t.np t.nn)] (boA true),(vi ↑t.args.length)=(vi (↑(List.map Te.enc t.args).length)),Bn .gtr 3 (.tmp 55) (.const (vi 8)) (vi ↑t.args.length) (vi 8) bT]) Tryz.func140 (by kernel_rfl) (by kernel_rfl) ⟨h2,bin_ieq (noD k1),bin_ieq (noD k2),bin_ieq (yesD k3),h1,lenEncT _,bin_igt (decide_eq_true (by omega)),trivial⟩
     | true =>
      have e:=of_decide_eq_true b3
      obtain ⟨l1,l2⟩:=fr_loop hl (fun x hx=>ih x (by have:=Te.size_args hx;omega) (hb.kids hx)) t.args 0 rfl (Nat.zero_le _)
      cases b4:frmL t.args with
      | false =>
       have ht:=(l2 b4).tri
       exact pwalk (an:=[yT,yF,yF,yT,yT,.av (inA t.args.length),yF]) (ls:=[.inv [1,4] 1 (.ret) (frR t false)]) (ps:=[Puk 50 [(obA t.val),(.agg [(inA 0),(stA []),(stA []),(stA []),(stA []),(stA []),(.dt (.row []))])] (boA true),Bn .eql 3 (.tmp 10) (.const (vi 1)) (vi t.kind) (vi 1) bF,Bn .eql 3 (.tmp 10) (.const (vi 2)) (vi t.kind) (vi 2) bF,Bn .eql 3 (.tmp 10) (.const (vi 3)) (vi t.kind) (vi 3) bT,Puk 155 [(syA t.np t.nn)] (boA true),(vi ↑t.args.length)=(vi (↑(List.map Te.enc t.args).length)),Bn .gtr 3 (.tmp 55) (.const (vi 8)) (vi ↑t.args.length) (vi 8) bF,Tri EX (.loop (subC (bodyOf Tryz.f140) [1,1,0,1,0,1,1,1,1,1,0,1,0,1,0,0])) (frS t 0) (.ret) (frR t false)]) Tryz.func140 (by kernel_rfl) (by kernel_rfl) ⟨h2,bin_ieq (noD k1),bin_ieq (noD k2),bin_ieq (yesD k3),h1,lenEncT _,bin_igt (decide_eq_false (by omega)),ht,trivial⟩
      | true =>
       have ht:=(l1 b4).tri
       exact pwalk (an:=[yT,yF,yF,yT,yT,.av (inA t.args.length),yF]) (ls:=[.inv [1,4] 1 (.out 1) (frN t)]) (ps:=[Puk 50 [(obA t.val),(.agg [(inA 0),(stA []),(stA []),(stA []),(stA []),(stA []),(.dt (.row []))])] (boA true),Bn .eql 3 (.tmp 10) (.const (vi 1)) (vi t.kind) (vi 1) bF,Bn .eql 3 (.tmp 10) (.const (vi 2)) (vi t.kind) (vi 2) bF,Bn .eql 3 (.tmp 10) (.const (vi 3)) (vi t.kind) (vi 3) bT,Puk 155 [(syA t.np t.nn)] (boA true),(vi ↑t.args.length)=(vi (↑(List.map Te.enc t.args).length)),Bn .gtr 3 (.tmp 55) (.const (vi 8)) (vi ↑t.args.length) (vi 8) bF,Tri EX (.loop (subC (bodyOf Tryz.f140) [1,1,0,1,0,1,1,1,1,1,0,1,0,1,0,0])) (frS t 0) (.out 1) (frN t)]) Tryz.func140 (by kernel_rfl) (by kernel_rfl) ⟨h2,bin_ieq (noD k1),bin_ieq (noD k2),bin_ieq (yesD k3),h1,lenEncT _,bin_igt (decide_eq_false (by omega)),ht,trivial⟩
  ·rw [if_neg k3]
   exact pwalk (an:=[.av (boA (decide (t.val=zOb))),yF,yF,yF]) (ls:=[]) (ps:=[Puk 50 [(obA t.val),(.agg [(inA 0),(stA []),(stA []),(stA []),(stA []),(stA []),(.dt (.row []))])] (boA (decide (t.val=zOb))),Bn .eql 3 (.tmp 10) (.const (vi 1)) (vi t.kind) (vi 1) bF,Bn .eql 3 (.tmp 10) (.const (vi 2)) (vi t.kind) (vi 2) bF,Bn .eql 3 (.tmp 10) (.const (vi 3)) (vi t.kind) (vi 3) bF]) Tryz.func140 (by kernel_rfl) (by kernel_rfl) ⟨h2,bin_ieq (noD k1),bin_ieq (noD k2),bin_ieq (noD k3),trivial⟩
theorem p_rValidT {t:Te} (hb:t.Bd):Puk 104 [teA t] (boA t.valid):=by
 have h1:=p_rNodes hb
 have h2:=p_rDepth hb
 have h3:=p_rFormed _ t (Nat.le_refl _) hb
 unfold Te.valid
 cases b1:decide (t.nods≤3000) with
 | false =>
  have e:=of_decide_eq_false b1
  exact pwalk (an:=[.av (inA ((min t.nods 3001:Nat):Int)),yF]) (ls:=[]) (ps:=[Puk 138 [(teA t)] (inA (↑(min t.nods 3001))),Bn .leq 3 (.tmp 4) (.const (vi 3000)) (vi (↑(min t.nods 3001))) (vi 3000) bF]) Tryz.func104 (by kernel_rfl) (by kernel_rfl) ⟨h1,bin_ile (decide_eq_false (by omega)),trivial⟩
 | true =>
  have e:=of_decide_eq_true b1
  cases b2:decide (t.dep≤200) with
  | false =>
   have e2:=of_decide_eq_false b2
   exact pwalk (an:=[.av (inA ((min t.nods 3001:Nat):Int)),yT,.av (inA ((min t.dep 201:Nat):Int)),yF]) (ls:=[]) (ps:=[Puk 138 [(teA t)] (inA (↑(min t.nods 3001))),Bn .leq 3 (.tmp 4) (.const (vi 3000)) (vi (↑(min t.nods 3001))) (vi 3000) bT,Puk 139 [(teA t)] (inA (↑(min t.dep 201))),Bn .leq 3 (.tmp 8) (.const (vi 200)) (vi (↑(min t.dep 201))) (vi 200) bF]) Tryz.func104 (by kernel_rfl) (by kernel_rfl) ⟨h1,bin_ile (decide_eq_true (by omega)),h2,bin_ile (decide_eq_false (by omega)),trivial⟩
  | true =>
   have e2:=of_decide_eq_true b2
   exact pwalk (an:=[.av (inA ((min t.nods 3001:Nat):Int)),yT,.av (inA ((min t.dep 201:Nat):Int)),yT,.av (boA (frm t))]) (ls:=[]) (ps:=[Puk 138 [(teA t)] (inA (↑(min t.nods 3001))),Bn .leq 3 (.tmp 4) (.const (vi 3000)) (vi (↑(min t.nods 3001))) (vi 3000) bT,Puk 139 [(teA t)] (inA (↑(min t.dep 201))),Bn .leq 3 (.tmp 8) (.const (vi 200)) (vi (↑(min t.dep 201))) (vi 200) bT,Puk 140 [(teA t)] (boA t.frm)]) Tryz.func104 (by kernel_rfl) (by kernel_rfl) ⟨h1,bin_ile (decide_eq_true (by omega)),h2,bin_ile (decide_eq_true (by omega)),h3,trivial⟩
end Go.Proofs.YthhknjlmjefklaaGreatDoor
namespace Go.Proofs.YthhknjlmjefklaaGreatDoor
open Go.RowKit
theorem Puk.law {f:FuncId} {args:List AV} (h:Puk f args (boA true)) {ok:Nat→Prop} {W:World} {vs:List Value} (hG:Gx W) (hv:RL (M0 ok) W args vs):Calls Tryz.prog f vs.toArray W fun e W'=>e=.returned (.bool true)∧Below W.heap.size W W' :=
 (h.2 ok W vs hG hv).mono fun e W' ⟨v,he,hb,hr⟩=>⟨by rw [he,Rd.val_eq hr],hb⟩
abbrev Says (f:FuncId) (args:Array Value) (W:World):Prop:=Calls Tryz.prog f args W fun e W'=>e=.returned (.bool true)∧Below W.heap.size W W'
end Go.Proofs.YthhknjlmjefklaaGreatDoor
