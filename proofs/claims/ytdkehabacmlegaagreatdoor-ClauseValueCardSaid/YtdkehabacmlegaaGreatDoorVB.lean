/- (*strings.Builder).WriteByte and WriteString on a builder that the call has made itself (turned from the shelf's own proofs: this translation refuses the panic of copyCheck, so the shelf's contracts cannot be laid). -/
import Derived.Test.YtdkehabacmlegaaGreatDoorShelf
import Derived.Test.YtdkehabacmlegaaGreatDoorVA
import Derived.Lib.AppendStr
import Derived.Lib.Builder
import Derived.Lib.UnsafeStr
import Derived.Laws.Externs
import Derived.Test.YtdkehabacmlegaaGreatDoorProg
import Derived.WalkKit
import Derived.WalkSpells
import Derived.OwnWalk
import Derived.Deep.Draws
import Derived.WalkLawsBesides
import Derived.Lib.AtoiErrMem
import Derived.Lib.AppendIntMem
import Derived.Lib.Hide
import Derived.Maps.AppendAt
import Derived.Laws.MakeOwn
import Derived.Deep.Slices
import Derived.Lib.Strings
import Derived.OpenShut
set_option maxRecDepth 100000
set_option maxHeartbeats 4000000
namespace Go.Proofs.YtdkehabacmlegaaGreatDoor
open Tryz
open Go.RowKit
theorem sizeBuilder:(prog.info? 300).map (·.size)=some 2:=by kernel_rfl
theorem liesBuilder:liesAt prog prog.depth 300 (2 / prog.cellsOf 300) 0 300 1=true:=by kernel_rfl
theorem infoByte:(prog.info? 5).map (fun i=>(i.zero,i.size,i.bytes))=some (some (.int .u8 0),1,1):=by kernel_rfl
theorem Xd(b:Nat)(w:World)(h0:w.cell? ⟨b,0,none⟩=some (.pointer (some ⟨b,0,none⟩))) :
  Calls prog 291 #[.pointer (some ⟨b,0,none⟩)] w fun e w'=>e=.returned (.tuple #[])∧w=w':=by
 obtain⟨j,hj,_⟩:=Option.map_eq_some_iff.1 sizeBuilder
 go_enter func291,ntmps291
 go_wp2;rw[Lib.run_neq_ptr_same w _ Tryz.underlying298 hj];go_wp2
 go_end0
 exact⟨rfl,rfl⟩
theorem WW(b:Nat)(w:World)(h0:w.cell? ⟨b,0,none⟩=some (.pointer none))(hsh:w.shape? b=some (300,2))(hfz:w.frozen? ⟨b,0,none⟩=false) :
  Calls prog 291 #[.pointer (some ⟨b,0,none⟩)] w fun e w'=>e=.returned (.tuple #[])∧w'=w.setCell ⟨b,0,none⟩ (.pointer (some ⟨b,0,none⟩)):=by
 obtain⟨j,hj,hjs⟩:=Option.map_eq_some_iff.1 sizeBuilder
 go_enter func291,ntmps291
 go_wp2;rw[Lib.run_to_unsafe w ⟨b,0,none⟩ Tryz.underlying298 Tryz.underlying312 hj (by rw[hjs];decide) hsh (Nat.zero_lt_succ 1)];simp only[Result.andThen];rw[Oper.upon_value];go_wp2;rw[run_callFunc_extern func299 (by kernel_rfl) (by kernel_rfl) (by kernel_rfl) (e:=Extern.AbiNoEscape.same) (by kernel_rfl)];rw[Lib.run_noEscape];simp only[Result.andThen];rw[Oper.upon_value];go_wp2;rw[Lib.run_from_unsafe w ⟨b,0,none⟩ Tryz.underlying312 Tryz.underlying298 hj hsh liesBuilder];simp only[Result.andThen];rw[Oper.upon_value];go_wp2
 go_end0
 exact⟨rfl,rfl⟩
theorem La(B b:Nat)(bs:List Value)(w:World)(h:Lib.IsBuilder 300 5 B b bs w) :
  Calls prog 291 #[.pointer (some ⟨b,0,none⟩)] w fun e w'=>e=.returned (.tuple #[])∧(Lib.BuilderAt 300 5 B b (.pointer (some ⟨b,0,none⟩)) bs w'∧Below B w w'):=by
 rcases h with h | h
 ·refine (WW b w h.cell0 h.shape h.frozen0).mono ?_;rintro e w' ⟨rfl,rfl⟩;exact⟨rfl,h.used _,(Below.refl B w).setCell (p:=⟨b,0,none⟩) h.1 _⟩
 ·refine (Xd b w h.cell0).mono ?_;rintro e w' ⟨rfl,rfl⟩;exact⟨rfl,h,Below.refl B _⟩
theorem Xl(B b:Nat)(bs:List Value)(c:Int)(w:World)(h:Lib.IsBuilder 300 5 B b bs w)(hlen:bs.length+1≤140737488355328)(hBw:B≤w.heap.size) :
  Calls prog 280 #[.pointer (some ⟨b,0,none⟩),.int .u8 c] w fun e w'=>e=.returned .nilIface∧(Lib.BuilderAt 300 5 B b (.pointer (some ⟨b,0,none⟩)) (bs++[.int .u8 c]) w'∧Below B w w'):=by
 obtain⟨i0,hi,hz0,hz1,hz2⟩:=info_parts infoByte
 go_enter func280,ntmps280
 go_wp2_with (go_at_call 291;refine (La B b bs _ h).mono ?_)
 rintro e w1 ⟨rfl,h1,hb1⟩;obtain⟨hB,v,hbk,hown,hne⟩:=h1;have c0:w1.cell? ⟨b,0,none⟩=some (.pointer (some ⟨b,0,none⟩)):=by rw[Lib.cell_of_heap hbk];rfl
 have c1:w1.cell? ⟨b,1,none⟩=some v:=by rw[Lib.cell_of_heap hbk];rfl
 go_wp2_with (at_builtin;refine wpList_append_own _ rfl _ _ 226 rfl B 5 i0 (.int .u8 0) 1 1 Tryz.underlying226 hi hz0 hz1 hz2 rfl O _ _ _ rfl (hown.alloc _) ⟨w1.heap.size,0,none⟩ 1 1 [.int .u8 c] rfl rfl ?c1 ?c2 ?c3 ?c4 ?c5 ?_)
 case c1 =>
  intro j u hj
  match j,hj with
  |0,hj=>simp at hj;subst hj;simp[Addr.add]
 case c2=>intro u hu;simp at hu;subst hu;rfl
 case c3=>unfold maxLen;omega
 case c4=>omega
 case c5=>have:=hb1.size;simp;omega
 intro v' w2 hown' hgrow _;have hlt:b < w1.heap.size:=by
  rcases Nat.lt_or_ge b w1.heap.size with h' | h'
  ·exact h'
  ·simp[Array.getElem?_eq_none h']at hbk
 have hb2:w2.heap[b]?=some (.cells #[.pointer (some ⟨b,0,none⟩),v] 300 (0,0)):=by
  rw[hgrow.block b (by simp;omega) (fun e=>hne e.symm),Lib.alloc_old w1 _ b hlt];exact hbk
 have d0:w2.cell? ⟨b,0,none⟩=some (.pointer (some ⟨b,0,none⟩)):=by rw[Lib.cell_of_heap hb2];rfl
 have d1:w2.cell? ⟨b,1,none⟩=some v:=by rw[Lib.cell_of_heap hb2];rfl
 have f1:w2.frozen? ⟨b,1,none⟩=false:=Lib.frozen_of_heap hb2 1;obtain⟨g,cap,rfl⟩:∃g cap,v'=.slice (some ⟨g,0,none⟩) (bs.length+1) cap:=by
  rcases hown'.2 with⟨_,h0⟩ | ⟨g,cap,cur,hv,_⟩
  ·omega
  ·exact⟨g,cap,hv⟩
 go_wp2;go_ret;refine⟨rfl,?_,?_⟩
 ·exact Lib.BuilderAt.put (T:=300) (e:=5) hB hb2 (bs':=bs++[.int .u8 c]) (by simpa using hown') O
 ·exact ((hb1.alloc (by have:=hb1.size;omega) _).grown hgrow (by have:=hb1.size;simp;omega) (fun k hk=>(hown.lt k hk).1)).setCell (p:=⟨b,1,none⟩) hB _
theorem rQ(B b:Nat)(bs:List Value)(s:ByteArray)(w:World)(h:Lib.IsBuilder 300 5 B b bs w)(hlen:bs.length+s.size≤140737488355328)(hBw:B≤w.heap.size) :
  Calls prog 281 #[.pointer (some ⟨b,0,none⟩),.string s] w fun e w'=>e=.returned (.tuple #[.int .i64 s.size,.nilIface])∧(Lib.BuilderAt 300 5 B b (.pointer (some ⟨b,0,none⟩)) (bs++Lib.strCells s) w'∧Below B w w'):=by
 obtain⟨i0,hi,hz0,hz1,hz2⟩:=info_parts infoByte
 go_enter func281,ntmps281
 go_wp2_with (go_at_call 291;refine (La B b bs _ h).mono ?_)
 rintro e w1 ⟨rfl,h1,hb1⟩;obtain⟨hB,v,hbk,hown,hne⟩:=h1;have c0:w1.cell? ⟨b,0,none⟩=some (.pointer (some ⟨b,0,none⟩)):=by rw[Lib.cell_of_heap hbk];rfl
 have c1:w1.cell? ⟨b,1,none⟩=some v:=by rw[Lib.cell_of_heap hbk];rfl
 go_wp2_with (at_builtin;refine Lib.wpList_append_own_string _ rfl _ _ 226 9 rfl B 5 i0 Tryz.underlying226 Tryz.underlying9 hi hz0 hz1 hz2 _ _ _ rfl hown s rfl ?c3 ?c4 ?c5 ?_)
 case c3=>unfold maxLen;omega
 case c4=>omega
 case c5=>have:=hb1.size;omega
 intro v' w2 hown' hgrow _;have hlt:b < w1.heap.size:=by
  rcases Nat.lt_or_ge b w1.heap.size with h' | h'
  ·exact h'
  ·simp[Array.getElem?_eq_none h']at hbk
 have hb2:w2.heap[b]?=some (.cells #[.pointer (some ⟨b,0,none⟩),v] 300 (0,0)):=by
  rw[hgrow.block b hlt (fun e=>hne e.symm)];exact hbk
 have d0:w2.cell? ⟨b,0,none⟩=some (.pointer (some ⟨b,0,none⟩)):=by rw[Lib.cell_of_heap hb2];rfl
 have d1:w2.cell? ⟨b,1,none⟩=some v:=by rw[Lib.cell_of_heap hb2];rfl
 have f1:w2.frozen? ⟨b,1,none⟩=false:=Lib.frozen_of_heap hb2 1;obtain⟨ao,n',cap,rfl⟩:∃ao n' cap,v'=.slice ao n' cap:=by
  rcases hown'.2 with⟨hv,_⟩ | ⟨g,cap,cur,hv,_⟩
  ·exact⟨_,_,_,hv⟩
  ·exact⟨_,_,_,hv⟩
 go_wp2;go_ret2;refine⟨rfl,?_,?_⟩
 ·exact Lib.BuilderAt.put (T:=300) (e:=5) hB hb2 (bs':=bs++Lib.strCells s) (by simpa[Lib.strCells_length] using hown') O
 ·exact (hb1.grown hgrow (by have:=hb1.size;omega) (fun k hk=>(hown.lt k hk).1)).setCell (p:=⟨b,1,none⟩) hB _
def y9(w:World)(g:Nat)(t:TypeId)(cs:Array Value):Prop:=w.heap[g]?=some (.cells cs t (0,0))
theorem y9.lt{w:World}{g:Nat}{t:TypeId}{cs:Array Value}(h:y9 w g t cs):g < w.heap.size:=by
 rcases Nat.lt_or_ge g w.heap.size with hlt | hge
 ·exact hlt
 ·unfold y9 at h;rw[Array.getElem?_eq_none hge]at h;cases h
theorem y9.cell{w:World}{g:Nat}{t:TypeId}{cs:Array Value}(h:y9 w g t cs)(i:Nat):w.cell? ⟨g,i,none⟩=cs[i]?:=by
 unfold y9 at h;simp[World.cell?,h]
theorem y9.frozen{w:World}{g:Nat}{t:TypeId}{cs:Array Value}(h:y9 w g t cs)(i:Nat):w.frozen? ⟨g,i,none⟩=false:=by
 unfold y9 at h;simp[World.frozen?,h]
theorem y9.keep{w w':World}{g:Nat}{t:TypeId}{cs:Array Value}(h:y9 w g t cs)(e:w'.heap[g]?=w.heap[g]?):y9 w' g t cs:=e.trans h
theorem y9.alloc{w:World}{g:Nat}{t:TypeId}{cs:Array Value}(h:y9 w g t cs)(o:Obj):y9 (w.alloc o) g t cs:=h.keep (Below.heap_alloc w o g h.lt)
theorem y9.new(w:World)(t:TypeId)(cs:Array Value):y9 (w.alloc (.cells cs t)) w.heap.size t cs:=heap_alloc_new w _
theorem y9.dS{w:World}{g:Nat}{t:TypeId}{cs:Array Value}(h:y9 w g t cs)(i:Nat)(u:Value):y9 (w.setCell ⟨g,i,none⟩ u) g t (cs.setIfInBounds i u):=by
 unfold y9 at h ⊢;simp[World.setCell,Array.getElem?_modify,h]
theorem y9.far{w:World}{g:Nat}{t:TypeId}{cs:Array Value}(h:y9 w g t cs){p:Addr}(hp:g≠p.block)(u:Value):y9 (w.setCell p u) g t cs:=h.keep (Below.heap_setCell w p u g hp)
theorem y9.below{w w':World}{g:Nat}{t:TypeId}{cs:Array Value}(h:y9 w g t cs)(hb:Below w.heap.size w w'):y9 w' g t cs:=h.keep (hb.block g h.lt)
theorem y9.two{w:World}{g:Nat}{t:TypeId}{u v:Value}(h:y9 w g t #[u,v]):w.cell? ⟨g,0,none⟩=some u∧w.cell? ⟨g,1,none⟩=some v∧w.frozen? ⟨g,0,none⟩=false∧w.frozen? ⟨g,1,none⟩=false∧g < w.heap.size :=
 ⟨h.cell 0,h.cell 1,h.frozen 0,h.frozen 1,h.lt⟩
theorem y9.drew{w:World}{g:Nat}{t:TypeId}{cs:Array Value}(h:y9 w g t cs):y9 w.drew g t cs:=h
theorem y9.lT(w:World)(o:Obj)(t:TypeId)(cs:Array Value):y9 ((w.alloc o).alloc (.cells cs t)) (w.heap.size+1) t cs:=by
 have:=y9.new (w.alloc o) t cs;simpa using this
theorem box(w:World)(o:Obj):Below w.heap.size w (w.alloc o):=(Below.refl _ _).alloc (Nat.le_refl _) _
theorem via{w w1:World}{o:Obj}(h:Below (w.alloc o).heap.size (w.alloc o) w1):Below w.heap.size w w1:=(box w o).trans (h.mono (box w o).size)
theorem J9{a w w1:World}(h0:Below a.heap.size a w)(h:Below w.heap.size w w1):Below a.heap.size a w1:=h0.trans (h.mono h0.size)
theorem aT{a w:World}(h0:Below a.heap.size a w)(o:Obj):Below a.heap.size a (w.alloc o):=h0.alloc h0.size o
theorem set2{a w:World}(h0:Below a.heap.size a w){g i:Nat}(hg:a.heap.size≤g)(u:Value):Below a.heap.size a (w.setCell ⟨g,i,none⟩ u):=h0.setCell (p:=⟨g,i,none⟩) hg u
theorem y9.via{w w1:World}{t:TypeId}{cs:Array Value}(h:Below (w.alloc (.cells cs t)).heap.size (w.alloc (.cells cs t)) w1):y9 w1 w.heap.size t cs:=(y9.new w t cs).below h
theorem y9.seven{w:World}{g:Nat}{t:TypeId}{c0 c1 c2 c3 c4 c5 c6:Value}(h:y9 w g t #[c0,c1,c2,c3,c4,c5,c6]) :
  w.cell? ⟨g,0,none⟩=some c0∧w.cell? ⟨g,1,none⟩=some c1∧w.cell? ⟨g,2,none⟩=some c2∧w.cell? ⟨g,3,none⟩=some c3∧w.cell? ⟨g,4,none⟩=some c4∧w.cell? ⟨g,5,none⟩=some c5∧w.cell? ⟨g,6,none⟩=some c6∧g < w.heap.size :=
 ⟨h.cell 0,h.cell 1,h.cell 2,h.cell 3,h.cell 4,h.cell 5,h.cell 6,h.lt⟩
theorem Xe(l:bi):Lib.trimPrefix l [45]=j4.mag l:=by
 cases l with
 |nil=>rfl
 |cons c r =>
  by_cases h:c=45
  ·subst h;simp[Lib.trimPrefix,Lib.hasPrefix,j4.mag]
  ·have h':¬45=c:=fun e=>h e.symm
   simp[Lib.trimPrefix,Lib.hasPrefix,j4.mag,h,h']
theorem Ee(l:bi)(w:World) :
  Calls prog 277 #[.string ⟨l.toArray⟩,.string ⟨#[45]⟩] w fun e w'=>e=.returned (.string ⟨(j4.mag l).toArray⟩)∧w=w':=by
 refine (Tryz.strings_TrimPrefix ⟨l.toArray⟩ ⟨#[45]⟩ w).mono ?_;rintro e w' ⟨rfl,rfl⟩;exact⟨by rw[←Xe],rfl⟩
theorem Lh{l r:bi}{c:UInt8}(h:j4.mag l=c::r)(hc:c.toNat=48):j4.M4 l=(l == [48]):=by
 have e:c=48:=UInt8.toNat_inj.1 (by simpa using hc);unfold j4.M4;rw[h,e];simp
theorem Ez{l r:bi}{c:UInt8}(h:j4.mag l=c::r)(hc:c.toNat≠48):j4.M4 l=j4.O4 (j4.mag l):=by
 have h0:l≠[48]:=by
  rintro rfl;have e:j4.mag [48]=[48]:=O;rw[e]at h;injection h with h _
  exact hc (by rw[←h];rfl)
 rw[Bool.eq_iff_iff,j4.kZ h0];exact⟨fun⟨a,_⟩=>a,fun a=>⟨a,c,r,h,hc⟩⟩
theorem byte_at{D:ByteArray}{l:bi}(h:D.data.toList=l)(k:Nat)(hk:k < D.size):∃hl:k < l.length,D[k]=l[k]:=by
 subst h;exact⟨by rw[←Lib.size_eq];exact hk,rfl⟩
theorem Ef{l:bi}{k:Nat}(hk:k < l.length)(h:j4.O4 (l.take k)=true)(h1:48≤l[k].toNat)(h2:l[k].toNat≤57):j4.O4 (l.take (k+1))=true:=by
 rw[List.take_succ_eq_append_getElem hk];exact j4.ME.2 ⟨h,by simp[j4.aD,h1,h2]⟩
theorem sG{l:bi}{k:Nat}(hk:k < l.length)(h:l[k].toNat < 48∨57 < l[k].toNat):j4.O4 l=false:=by
 cases hd:j4.O4 l with
 |false=>rfl
 |true =>
  have:=List.all_eq_true.1 hd _ (List.getElem_mem hk);simp only[j4.aD,Bool.and_eq_true,decide_eq_true_eq]at this;omega
theorem Xy{D:ByteArray}(h:D.size=0):D.toList=[]:=by
 rw[Lib.toList_data];exact List.eq_nil_of_length_eq_zero (by rw[←Lib.size_eq];exact h)
theorem Ze{D:ByteArray}(h:¬D.size=0):¬D.toList=[]:=by
 rw[Lib.toList_data];intro e;exact h (by rw[Lib.size_eq,e];rfl)
theorem jP(l:bi)(w:World)(hl:l.length≤1000000000) :
  Calls prog 274 #[.string ⟨l.toArray⟩] w fun e w'=>e=.returned (.bool (j4.M4 l))∧w=w':=by
 have gy:=j4.iF l
 go_enter func274,ntmps274
 go_wp2_with fail
 refine (Ee l _).mono ?_;rintro e w' ⟨rfl,rfl⟩;obtain⟨D,hD⟩:∃D:ByteArray,D=⟨(j4.mag l).toArray⟩:=⟨_,rfl⟩;rw[←hD];have HT:Hid (D.data.toList=j4.mag l):=by rw[hD];exact (rfl:(j4.mag l).toArray.toList=j4.mag l)
 clear hD;have hsz:D.size≤1000000000:=by rw[Lib.size_eq,HT.out];omega
 clear gy;by_cases h0:D.size=0
 ·have hE1:=Xy h0;have HF:Hid (j4.M4 l=(l == [48])):=by
   have hm:j4.mag l=[]:=by rw[←HT.out];exact List.eq_nil_of_length_eq_zero (by rw[←Lib.size_eq];exact h0)
   show _=_;unfold j4.M4;rw[hm];simp
  go_wp2;go_ret;exact⟨by rw[HF.out];rfl,rfl⟩
 ·have hE1:=Ze h0;have hE2:D.toList.isEmpty=false:=by simp[hE1]
  have hpos:0 < D.size:=J;obtain⟨hl0,e0⟩:=byte_at HT.out 0 hpos;obtain⟨c,r,hcr⟩:∃c r,j4.mag l=c::r:=by
   cases hm:j4.mag l with
   |nil=>rw[hm]at hl0;simp at hl0
   |cons c r=>exact⟨c,r,rfl⟩
  have ec:D[0]=c:=by rw[e0];simp[hcr]
  by_cases h48:D[0].toNat=48
  ·have HF:=Lib.hid (Lh hcr (by rw[←ec];exact h48));have hb:((D[0].toNat:Int) == 48)=true:=by rw[beq_iff_eq];omega
   clear h48 hcr e0 ec hl0;go_wp2;go_ret;exact⟨by rw[HF.out];rfl,rfl⟩
  ·have HF:=Lib.hid (Ez hcr (by rw[←ec];exact h48));have hb:((D[0].toNat:Int) == 48)=false:=by rw[beq_eq_false_iff_ne];omega
   clear h48 hcr e0 ec hl0;go_wp2
   go_loop [18] (fun ix=>∃k:Nat,k≤D.size∧ix=.int .i64 k∧Hid (j4.O4 ((j4.mag l).take k)=true)) (fun ix=>D.size - (intOf ix).toNat)
   case atStart=>exact⟨0,Nat.zero_le _,rfl,(rfl:j4.O4 ((j4.mag l).take 0)=true)⟩
   case round =>
    obtain⟨k,hk,rfl,HK⟩:=hrel;by_cases hlt:k < D.size
    ·obtain⟨hkl,ek⟩:=byte_at HT.out k hlt;have EK:=Lib.hid ek;clear ek;rcases Nat.lt_or_ge D[k].toNat 48 with h1 | h1
     ·have HR:Hid (j4.M4 l=false):=by show _=_;rw[HF.out];exact sG hkl (.inl (by rw[←EK.out];exact h1))
      go_wp2;go_ret;exact⟨by rw[HR.out];rfl,rfl⟩
     ·rcases Nat.lt_or_ge 57 D[k].toNat with h2 | h2
      ·have HR:Hid (j4.M4 l=false):=by show _=_;rw[HF.out];exact sG hkl (.inr (by rw[←EK.out];exact h2))
       go_wp2;go_ret;exact⟨by rw[HR.out];rfl,rfl⟩
      ·go_wp2
       go_round
       case rel=>exact⟨k+1,J,by go_num,Ef hkl HK.out (by rw[←EK.out];exact h1) (by rw[←EK.out];exact h2)⟩
       case measure=>simp only[intOf];omega
    ·have HR:Hid (j4.M4 l=true):=by
      show _=_;rw[HF.out];have:=HK.out
      rwa [List.take_of_length_le (by rw[←HT.out,←Lib.size_eq];omega)]at this
     go_wp2;go_ret;exact⟨by rw[HR.out];rfl,rfl⟩
theorem Xm(s:ByteArray)(w:World)(h:j4.O4 s.data.toList=true)(h0:s.data.toList≠[])(h9:s.data.toList.length≤9) :
  Calls prog 278 #[.string s,.int .i64 10,.int .i64 32] w fun e w'=>e=.returned (.tuple #[.int .u64 (j4.M6 s.data.toList:Nat),.nilIface])∧Below w.heap.size w w':=by
 have hs:s.size≤9:=by rw[Lib.size_eq];exact h9
 refine (Tryz.strconv_ParseUint_10_at32_ok s J _ (j4.XT h h0 h9) w).mono ?_;rintro e w' ⟨rfl,hw⟩;refine⟨rfl,?_⟩;rcases hw with rfl | rfl
 ·exact Below.refl _ _
 ·exact Lib.bytesWorld_below _ _ _
theorem Li(l:bi)(w:World)(h:j4.M4 l=true)(h18:l.length≤18) :
  Calls prog 275 #[.string ⟨l.toArray⟩,.int .i64 10,.int .i64 64] w fun e w'=>e=.returned (.tuple #[.int .i64 (j4.r9 l),.nilIface])∧Below w.heap.size w w':=by
 have hs:(⟨l.toArray⟩:ByteArray).size≤18:=by rw[Lib.size_eq];exact h18
 refine (Tryz.strconv_ParseInt_10_at64_ok ⟨l.toArray⟩ J _ (j4.Xc h h18) w).mono ?_;rintro e w' ⟨rfl,hw⟩;refine⟨rfl,?_⟩;rcases hw with rfl | ⟨t,rfl⟩
 ·exact Below.refl _ _
 ·exact Lib.bytesWorld_below _ _ _
def norm(l:bi):bi:=if j4.M4 l then l else [48]
theorem Fe(l:bi):j4.M4 (norm l)=true:=by
 unfold norm;split
 ·assumption
 ·rfl
theorem norm_eq(l:bi):norm l=Lib.itoa (j4.r9 l):=by
 unfold norm;split
 ·exact (j4.Za ‹_›).symm
 ·rename_i h;unfold j4.r9;rw[if_neg h,j4.fI]
theorem jO(l:bi):(norm l).length≤l.length+1:=by
 unfold norm;split <;> simp
theorem EI(l:bi):j4.r9 (norm l)=j4.r9 l:=by rw[norm_eq,j4.K5]
theorem pJ(l:bi)(w:World)(hl:l.length≤1000000000) :
  Calls prog 262 #[.string ⟨l.toArray⟩] w fun e w'=>e=.returned (.string ⟨(norm l).toArray⟩)∧w=w':=by
 cases hv:j4.M4 l with
 |true =>
  have HN:Hid (norm l=l):=by show _=_;unfold norm;rw[if_pos hv]
  have hc:=jP l w hl;rw[hv]at hc;have HC:=Lib.hid hc;clear hc hv
  go_enter func262,ntmps262
  go_wp2_with fail
  refine HC.out.mono ?_;rintro e w' ⟨rfl,rfl⟩;go_wp2;go_ret;exact⟨by rw[HN.out];rfl,rfl⟩
 |false =>
  have HN:Hid (norm l=[48]):=by show _=_;unfold norm;rw[if_neg (by rw[hv];simp)]
  have hc:=jP l w hl;rw[hv]at hc;have HC:=Lib.hid hc;clear hc hv
  go_enter func262,ntmps262
  go_wp2_with fail
  refine HC.out.mono ?_;rintro e w' ⟨rfl,rfl⟩;go_wp2;go_ret;exact⟨by rw[HN.out];rfl,rfl⟩
theorem vV(l:bi):j4.O4 (j4.mag (norm l))=true∧j4.mag (norm l)≠[]∧j4.M6 (j4.mag (norm l))=(j4.r9 l).natAbs∧(decide ((j4.mag (norm l)).length < (norm l).length))=decide (j4.r9 l < 0):=by
 have hd:=Fe l;have hv:=EI l;generalize norm l=s at *;by_cases h0:s=[48]
 ·subst h0;rw[←hv];decide
 ·obtain⟨h1,h2⟩:=(j4.kZ h0).1 hd;have hz:=(j4.zP _ h1 h2).2;obtain⟨c,r,e,_⟩:=h2;refine⟨h1,by rw[e];simp,?_,?_⟩
  ·rw[←hv];unfold j4.r9;rw[if_pos hd];split <;> omega
  ·rw[←hv];unfold j4.r9;rw[if_pos hd];cases hn:j4.neg s with
   |true =>
    have:=congrArg List.length (j4.zV hn);rw[List.length_cons]at this;rw[if_pos rfl,decide_eq_true J,decide_eq_true J]
   |false =>
    rw[j4.si hn,if_neg I,decide_eq_false J,decide_eq_false J]
def fM(K:Nat)(v:Int)(w:World)(e:Ending)(w':World):Prop :=
 ∃A n c,e=.returned (.agg #[.bool (decide (v < 0)),.slice A n c])∧Sl w' .u32 A n c (j4.limbs 1000000000 v.natAbs)∧n≤K∧Below w.heap.size w w'
theorem Own.Ie{w:World}{base:Nat}{E t:TypeId}{k:IntKind}{A:Option Addr}{n c g:Nat}{l:List Nat}{cs:Array Value}(h:Own w base E k A n c l)(hb:y9 w g t cs)(hne:E≠t):A≠some ⟨g,0,none⟩:=by
 rintro rfl;rcases h.own.2 with⟨hv,_⟩ | ⟨g',cap,cur,hv,_,hg,_⟩
 ·simp only[Value.slice.injEq]at hv;cases hv.1
 ·simp only[Value.slice.injEq]at hv;obtain⟨e,_⟩:=hv;injection e with e
  injection e with e1
  subst e1;unfold y9 at hb;rw[hg]at hb;injection hb with hb
  injection hb with _ ht
  exact hne ht
theorem Own.tJ{w:World}{base:Nat}{E t:TypeId}{k:IntKind}{A:Option Addr}{n c g:Nat}{l:List Nat}{cs:Array Value}(h:Own w base E k A n c l)(hb:y9 w g t cs)(hne:E≠t)(i:Nat)(u:Value):Own (w.setCell ⟨g,i,none⟩ u) base E k A n c l :=
 h.keep fun g' e=>Below.heap_setCell w _ u g' (by rintro rfl;exact h.Ie hb hne e)
theorem y9.BG{w w':World}{g:Nat}{t:TypeId}{u v:Value}(h:y9 w g t #[u,v])(e:w'.heap[g]?=w.heap[g]?) :
  w'.cell? ⟨g,0,none⟩=some u∧w'.cell? ⟨g,1,none⟩=some v∧w'.frozen? ⟨g,0,none⟩=false∧w'.frozen? ⟨g,1,none⟩=false∧Hid (y9 w' g t #[u,v])∧g < w'.heap.size:=by
 have h':=h.keep e;exact⟨h'.cell 0,h'.cell 1,h'.frozen 0,h'.frozen 1,Lib.hid h',h'.lt⟩
theorem Yx(D:ByteArray)(k:Nat):(D.extract 0 k).data.toList++(D.extract k D.size).data.toList=D.data.toList:=by
 rw[Lib.extract_data,Lib.extract_data,List.drop_zero,Nat.sub_zero,List.take_of_length_le (l:=D.data.toList.drop k) (by rw[List.length_drop,←Lib.size_eq];omega),List.take_append_drop]
def QP:Value→Nat
 |.string s=>s.size
 |_=>0
theorem fJ(l:bi)(w:World)(hl:l.length≤2500000) :
  Calls prog 256 #[.string ⟨l.toArray⟩] w (fM (l.length+1) (j4.r9 l) w):=by
 obtain⟨hd1,hd2,hd3,hd4⟩:=vV l;have HD1:=Lib.hid hd1;have HD2:=Lib.hid hd2;have HD3:=Lib.hid hd3;have gy:(j4.mag (norm l)).length≤l.length+1:=Nat.le_trans (j4.iF _) (jO l);have hnl:=jO l;have HD4:=Lib.hid hd4;clear hd1 hd2 hd3 hd4
 go_enter func256,ntmps256
 go_wp2_with fail
 refine (pJ l _ J).mono ?_;rintro e w' ⟨rfl,rfl⟩
 go_wp2_with fail
 refine (Ee (norm l) _).mono ?_;rintro e w' ⟨rfl,rfl⟩;obtain⟨D,hD⟩:∃D:ByteArray,D=⟨(j4.mag (norm l)).toArray⟩:=⟨_,rfl⟩;rw[←hD];have HT:Hid (D.data.toList=j4.mag (norm l)):=by rw[hD];exact (rfl:(j4.mag (norm l)).toArray.toList=_)
 clear hD;have hsz:D.size≤l.length+1:=by rw[Lib.size_eq,HT.out];exact gy
 obtain⟨D0,hD0⟩:∃D0:ByteArray,D0=⟨(norm l).toArray⟩:=⟨_,rfl⟩;rw[←hD0];have hsz0:D0.size≤l.length+1:=by rw[hD0,Lib.size_eq];exact hnl
 have hneg:decide (D.size < D0.size)=decide (j4.r9 l < 0):=by
  rw[hD0,Lib.size_eq,Lib.size_eq,HT.out];exact HD4.out
 clear hD0 HD4 hnl gy;generalize dI:decide (j4.r9 l < 0)=ng at hneg;have HNG:=Lib.hid dI;clear dI;go_wp2;have HV:Hid (j4.M6 D.data.toList=(j4.r9 l).natAbs):=by show _=_;rw[HT.out];exact HD3.out
 have HD:Hid (j4.O4 D.data.toList=true):=by show _=_;rw[HT.out];exact HD1.out
 clear HT HD1 HD2 HD3
 go_loopw [3] (fun s3 wr=>∃(E:ByteArray) (A2:Option Addr) (k c2:Nat) (o:List Nat),s3=.string E∧E.size+k≤l.length+1∧Hid (j4.O4 E.data.toList=true)∧Hid (y9 wr w.heap.size 279 #[.bool false,.slice none 0 0])∧Hid (y9 wr (w.heap.size+1) 279 #[.bool ng,.slice A2 k c2])∧Own wr w.heap.size 268 .u32 A2 k c2 o∧j4.Small 1000000000 o∧Hid ((j4.r9 l).natAbs=j4.u7 1000000000 o+1000000000 ^ k * j4.M6 E.data.toList)∧Below w.heap.size w wr) (fun s3 _=>QP s3)
 case atStart =>
  refine⟨D,none,0,0,[],rfl,J,HD,?_,?_,Own.nil _ _ _ _,j4.Small.nil,(by rw[HV.out];simp[j4.u7]:(j4.r9 l).natAbs=j4.u7 1000000000 []+1000000000 ^ 0 * j4.M6 D.data.toList),?_⟩
  ·exact (y9.new w _ _).alloc _
  ·have:=y9.new (w.alloc (.cells #[.bool false,.slice none 0 0] 279)) 279 #[.bool ng,.slice none 0 0];exact Lib.hid (by simpa using this)
  ·exact ((Below.refl _ _).alloc (Nat.le_refl _) _).alloc I _
 case round =>
  obtain⟨E,A2,k,c2,o,rfl,hEk,HE,HB1,HB2,hown,hso,UZ,hb⟩:=hrel;have HO:=Lib.hid hown.len;have c10:=HB2.out.cell 0;have c11:=HB2.out.cell 1;simp only[List.getElem?_toArray,List.getElem?_cons_zero,List.getElem?_cons_succ]at c10 c11;have f11:=HB2.out.frozen 1;have hlt1:=HB2.out.lt;by_cases h0:0 < E.size
  ·obtain⟨m,hmax,hm1,hm2,HM3⟩:∃m:Nat,max 0 ((E.size:Int) - 9)=(m:Int)∧m < E.size∧E.size≤m+9∧Hid (m=0∨E.size=m+9) :=
    ⟨E.size - 9,J,J,J,Lib.hid J⟩
   have HC:Hid ((E.extract 0 m).data.toList++(E.extract m E.size).data.toList=E.data.toList):=Yx E m;have hE1:(E.extract m E.size).data.toList.length=E.size - m:=by
    rw[Lib.extract_data,List.length_take,List.length_drop,←Lib.size_eq];omega
   have hE2:(E.extract 0 m).data.toList.length=m:=by
    rw[Lib.extract_data,List.length_take,List.length_drop,←Lib.size_eq];omega
   have hE3:(E.extract 0 m).size=m:=by rw[Lib.size_eq,hE2]
   have hdd:j4.O4 (E.extract 0 m).data.toList=true∧j4.O4 (E.extract m E.size).data.toList=true:=j4.Ep.1 (by rw[HC.out];exact HE.out);have Va:=Lib.hid hdd;have Jy:=j4.wF _ hdd.2;rw[hE1]at Jy;have Ub:j4.M6 (E.extract m E.size).data.toList < 1000000000:=Nat.lt_of_lt_of_le Jy (Nat.le_trans (Nat.pow_le_pow_right J (show E.size - m≤9 by omega)) O);have HR:Hid ((j4.r9 l).natAbs=j4.u7 1000000000 (o++[j4.M6 (E.extract m E.size).data.toList])+1000000000 ^ (k+1) * j4.M6 (E.extract 0 m).data.toList):=by
    have hlo:=HO.out;subst hlo;have h:=UZ.out;rw[←HC.out]at h;exact j4.Xw (D:=Lib.decDigits (j4.r9 l).natAbs) (by rw[j4.rR];exact h) (by
     rcases HM3.out with e | e
     ·right;exact List.eq_nil_of_length_eq_zero (by rw[hE2];exact e)
     ·left;rw[hE1,e,Nat.add_sub_cancel_left]) |> fun h=>by rw[j4.rR]at h;exact h
   have Vb:=Lib.hid hE1;clear hE1 hE2 hdd Jy HC;have Jz:=Xm (E.extract m E.size) wr Va.out.2 (by intro e;have:=congrArg List.length e;rw[Vb.out]at this;simp at this;omega) (by rw[Vb.out];omega);generalize j4.M6 (E.extract m E.size).data.toList=y at Ub HR Jz;have Vd:=Lib.hid Jz;clear Jz
   go_wp2_with fail
   refine Vd.out.mono ?_;rintro e w1 ⟨rfl,hb1⟩;clear Vd;have Uc:=HB1.out.below hb1;have uz:=HB2.out.below hb1;have d10:=uz.cell 0;have d11:=uz.cell 1;simp only[List.getElem?_toArray,List.getElem?_cons_zero,List.getElem?_cons_succ]at d10 d11;have g11:=uz.frozen 1;have hlt2:=uz.lt;have hown1:=hown.below hb1;have eH:Below w.heap.size w w1:=hb.trans (hb1.mono hb.size);have X1:=Lib.hid Uc;have X2:=Lib.hid uz;clear Uc uz HB1 HB2 c10 c11 f11 hlt1
   go_wp2_with (at_builtin;refine bV (w0:=w) rfl _ _ _ rfl 268 .u32 4 Tryz.underlying277 gH J _ _ _ o rfl hown1 _ y J rfl J eH ?_;intro A3 c3 w2 hown2 hb2 hblk _ _;have Z1:=Lib.hid (X1.out.keep (hblk _ X1.out.lt (hown1.Ie X1.out O)));obtain⟨_,e11,_,h11,Z2,hlt3⟩:=X2.out.BG (hblk _ X2.out.lt (hown1.Ie X2.out O));clear hblk d10 d11 g11 hlt2)
   go_roundw
   case rel =>
    refine⟨E.extract 0 m,A3,k+1,c3,o++[y],rfl,by rw[hE3];omega,Lib.hid Va.out.1,Lib.hid (Z1.out.far I _),?_,hown2.tJ Z2.out O _ _,hso.append (j4.Small.cons Ub j4.Small.nil),HR,hb2.setCell (p:=⟨w.heap.size+1,1,none⟩) I _⟩;have:=Z2.out.dS 1 (.slice A3 (k+1) c3);exact Lib.hid (by simpa using this)
   case measure=>simp only[QP];omega
  ·go_wp2_with fail
   refine (nI _ _ _ _ _ hown.sl J).mono ?_;rintro e w' ⟨rfl,rfl⟩;have b10:=HB1.out.cell 0;have b11:=HB1.out.cell 1;simp only[List.getElem?_toArray,List.getElem?_cons_zero,List.getElem?_cons_succ]at b10 b11;have g10:=HB1.out.frozen 0;have g11:=HB1.out.frozen 1;go_wp2;have HW:=((HB1.out.far (p:=⟨w.heap.size+1,1,none⟩) I (.slice A2 (j4.R3 o).length c2)).dS 0 (.bool ng)).dS 1 (.slice A2 (j4.R3 o).length c2);have hbW:Below w.heap.size w (((wr.setCell ⟨w.heap.size+1,1,none⟩ (.slice A2 (j4.R3 o).length c2)).setCell ⟨w.heap.size,0,none⟩ (.bool ng)).setCell ⟨w.heap.size,1,none⟩ (.slice A2 (j4.R3 o).length c2)) :=
    ((hb.setCell (p:=⟨w.heap.size+1,1,none⟩) I _).setCell (p:=⟨w.heap.size,0,none⟩) (Nat.le_refl _) _).setCell (p:=⟨w.heap.size,1,none⟩) (Nat.le_refl _) _
   have hsl:Sl (((wr.setCell ⟨w.heap.size+1,1,none⟩ (.slice A2 (j4.R3 o).length c2)).setCell ⟨w.heap.size,0,none⟩ (.bool ng)).setCell ⟨w.heap.size,1,none⟩ (.slice A2 (j4.R3 o).length c2)) .u32 A2 (j4.R3 o).length c2 (j4.limbs 1000000000 (j4.r9 l).natAbs):=by
    have h1:=(((hown.tJ HB2.out O 1 (.slice A2 (j4.R3 o).length c2)).tJ (HB1.out.far (p:=⟨w.heap.size+1,1,none⟩) I (.slice A2 (j4.R3 o).length c2)) O 0 (.bool ng)).tJ ((HB1.out.far (p:=⟨w.heap.size+1,1,none⟩) I (.slice A2 (j4.R3 o).length c2)).dS 0 (.bool ng)) O 1 (.slice A2 (j4.R3 o).length c2)).sl.trimmed (B:=1000000000) J hso;have hv:j4.u7 1000000000 o=(j4.r9 l).natAbs:=by
     rw[UZ.out,List.eq_nil_of_length_eq_zero (l:=E.data.toList) (by rw[←Lib.size_eq];omega),j4.Nu];simp
    rwa [hv]at h1
   generalize (((wr.setCell ⟨w.heap.size+1,1,none⟩ (.slice A2 (j4.R3 o).length c2)).setCell ⟨w.heap.size,0,none⟩ (.bool ng)).setCell ⟨w.heap.size,1,none⟩ (.slice A2 (j4.R3 o).length c2))=W at *;have q0:W.cell? ⟨w.heap.size,0,none⟩=some (.bool ng):=by rw[HW.cell 0];rfl
   have q1:W.cell? ⟨w.heap.size,1,none⟩=some (.slice A2 (j4.R3 o).length c2):=by rw[HW.cell 1];rfl
   refine bodyPost_ret (v:=.agg #[.bool ng,.slice A2 (j4.R3 o).length c2]) ?_ rfl ⟨A2,_,c2,by rw[HNG.out],hsl,?_,hbW⟩
   ·simp[results,Tryz.results256,go_sem,q0,q1]
   ·have:=rP o;rw[HO.out]at this;omega
def Q4(w:World):Prop:=Lib.TabIs prog w "internal/strconv.uint64pow10" .u64 Lib.pow10Tab
theorem Q4.below{w w':World}(h:Q4 w)(hb:Below w.heap.size w w'):Q4 w':=Lib.tabBelow_of_tabIs h w' hb
theorem Q4.alloc{w:World}(h:Q4 w)(o:Obj):Q4 (w.alloc o):=h.below ((Below.refl _ _).alloc (Nat.le_refl _) _)
theorem sH(n:Int)(w:World)(ht:Q4 w)(h0:-9223372036854775808≤n)(h1:n≤9223372036854775807) :
  Calls prog 118 #[.int .i64 n] w fun e w'=>e=.returned (.string ⟨(Lib.itoa n).toArray⟩)∧Below w.heap.size w w':=by
 refine (Tryz.strconv_Itoa n h0 h1 w ht).mono ?_;rintro e w' ⟨rfl,k,os,rfl⟩;exact⟨rfl,Lib.below_grow _ _ (Nat.le_refl _) _ _⟩
abbrev str(l:bi):Value:=.string ⟨l.toArray⟩
def Ff(v:Value)(w:World)(e:Ending)(w':World):Prop:=e=.returned v∧w=w'
def I7(v:Value)(w:World)(e:Ending)(w':World):Prop:=e=.returned v∧Below w.heap.size w w'
inductive Dt where
 |val (v:Value)
 |row (l:List (List Dt))
abbrev bv:=List (List Dt)
inductive Rd (ok:Nat→Prop) (w:World):Value→Dt→Prop
 |val (v:Value):Rd ok w v (.val v)
 |nil (A:Option Addr) (c:Nat):Rd ok w (.slice A 0 c) (.row [])
 |row (b o n c k:Nat) (l:bv) (f:Nat→Nat→Value) (hn:l.length=n) (h0:0 < n) (hc:n≤c) (hb:b < w.heap.size) (hok:ok b)
   (hk:∀i (h:i < l.length),(l[i]).length=k)
   (hf:∀i j (h:i < l.length),j < (l[i]).length→w.cell? ⟨b,o+i * k+j,none⟩=some (f i j))
   (hr:∀i j (h:i < l.length) (h':j < (l[i]).length),Rd ok w (f i j) ((l[i])[j])):Rd ok w (.slice (some ⟨b,o,none⟩) n c) (.row l)
section
variable {ok ok':Nat→Prop} {w w':World} {v:Value} {d:Dt}
theorem Rd.keep(h:Rd ok w v d)(hs:w.heap.size≤w'.heap.size)(hk:∀b,ok b→b < w.heap.size→w'.heap[b]?=w.heap[b]?):Rd ok w' v d:=by
 induction h with
 |val v=>exact .val v
 |nil A c=>exact .nil A c
 |row b o n c k l f hn h0 hc hb hok hk' hf _ ih =>
  exact .row b o n c k l f hn h0 hc (Nat.lt_of_lt_of_le hb hs) hok hk' (fun i j h h'=>(World.cell?_of_block (w:=w) (hk b hok hb)).trans (hf i j h h')) ih
theorem Rd.mono(h:Rd ok w v d)(hk:∀b,ok b→b < w.heap.size→ok' b):Rd ok' w v d:=by
 induction h with
 |val v=>exact .val v
 |nil A c=>exact .nil A c
 |row b o n c k l f hn h0 hc hb hok hk' hf _ ih=>exact .row b o n c k l f hn h0 hc hb (hk b hok hb) hk' hf ih
theorem Rd.under(h:Rd ok w v d)(hb:Below w.heap.size w w'):Rd ok w' v d:=h.keep hb.size fun b _ hlt=>hb.block b hlt
theorem Rd.drew(h:Rd ok w v d):Rd ok w.drew v d:=h.keep (Nat.le_refl _) fun _ _ _=>rfl
theorem Rd.far{p:Addr}(h:Rd ok w v d)(hp:∀b,ok b→b≠p.block)(u:Value):Rd ok (w.setCell p u) v d :=
 h.keep (by simp[World.setCell]) fun b hok _=>Below.heap_setCell w p u b (hp b hok)
theorem Rd.Q9{u:Value}(h:Rd ok w v (.val u)):v=u:=by cases h;rfl
theorem Rd.lt(h:Rd ok w v d):Rd (fun b=>ok b∧b < w.heap.size) w v d:=h.mono fun _ h hb=>⟨h,hb⟩
theorem Rd.slice{l:bv}(h:Rd ok w v (.row l)):∃A n c,v=.slice A n c∧l.length=n∧n≤c:=by
 cases h with
 |nil A c=>exact⟨A,0,c,rfl,rfl,Nat.zero_le _⟩
 |row b o n c k l f hn h0 hc=>exact⟨_,n,c,rfl,hn,hc⟩
theorem Rd.len{A:Option Addr}{n c:Nat}{l:bv}(h:Rd ok w (.slice A n c) (.row l)):l.length=n:=by
 cases h with
 |nil=>rfl
 |row _ _ _ _ _ _ _ hn=>exact hn
theorem Rd.cap{A:Option Addr}{n c:Nat}{l:bv}(h:Rd ok w (.slice A n c) (.row l)):n≤c:=by
 cases h with
 |nil=>exact Nat.zero_le _
 |row _ _ _ _ _ _ _ _ _ hc=>exact hc
theorem Rd.cells{A:Option Addr}{n c:Nat}{l:bv}(h:Rd ok w (.slice A n c) (.row l))(h0:0 < n) :
  ∃b o k,A=some ⟨b,o,none⟩∧b < w.heap.size∧ok b∧(∀i (h:i < l.length),(l[i]).length=k) ∧
   ∀i j (h:i < l.length) (h':j < (l[i]).length),∃u,w.cell? ⟨b,o+i * k+j,none⟩=some u∧Rd ok w u ((l[i])[j]):=by
 cases h with
 |nil=>omega
 |row b o n c k l f hn _ hc hb hok hk hf hr=>exact⟨b,o,k,rfl,hb,hok,hk,fun i j h h'=>⟨f i j,hf i j h h',hr i j h h'⟩⟩
theorem Rd.mk{b o n c k:Nat}{l:bv}(hn:l.length=n)(hc:n≤c)(hb:b < w.heap.size)(hok:ok b)(hk:∀i (h:i < l.length),(l[i]).length=k)
  (hf:∀i j (h:i < l.length) (h':j < (l[i]).length),∃u,w.cell? ⟨b,o+i * k+j,none⟩=some u∧Rd ok w u ((l[i])[j])):Rd ok w (.slice (some ⟨b,o,none⟩) n c) (.row l):=by
 rcases Nat.eq_zero_or_pos n with e | e
 ·subst e;obtain rfl:l=[]:=List.eq_nil_of_length_eq_zero hn;exact .nil _ _
 ·let f:Nat→Nat→Value:=fun i j=>(w.cell? ⟨b,o+i * k+j,none⟩).getD (.int .i64 0)
  refine .row b o n c k l f hn e hc hb hok hk (fun i j h h'=>?_) (fun i j h h'=>?_)
  ·obtain⟨u,h1,_⟩:=hf i j h h';simp only[f,h1,Option.getD_some]
  ·obtain⟨u,h1,h2⟩:=hf i j h h';simp only[f,h1,Option.getD_some];exact h2
theorem Rd.take{A:Option Addr}{n c m:Nat}{l:bv}(h:Rd ok w (.slice A n c) (.row l))(hm:m≤n):Rd ok w (.slice A m c) (.row (l.take m)):=by
 have hl:=h.len;rcases Nat.eq_zero_or_pos m with e | e
 ·subst e;exact .nil _ _
 ·obtain⟨b,o,k,rfl,hb,hok,hk,hf⟩:=h.cells J;refine Rd.mk (k:=k) (by rw[List.length_take];omega) (by have:=h.cap;omega) hb hok (fun i hi=>?_) (fun i j hi hj=>?_)
  ·rw[List.getElem_take];exact hk i _
  ·simp only[List.getElem_take]at hj ⊢
   exact hf i j (by rw[List.length_take]at hi;omega) hj
end
def Dt.one:Dt→Bool
 |.val v=>v.oneCell'
 |.row _=>true
theorem Rd.one{ok:Nat→Prop}{w:World}{v:Value}{d:Dt}(h:Rd ok w v d)(hd:d.one=true):v.oneCell'=true:=by
 cases h with
 |val v=>exact hd
 |nil=>rfl
 |row=>rfl
structure Y9 (ok:Nat→Prop) (w:World) (base:Nat) (E:TypeId) (k:Nat) (A:Option Addr) (n c:Nat) (l:bv):Prop where
 len:l.length=n
 own:∃xs,w.ownsRow base E k (.slice A n c) n xs∧∀i (hi:i < l.length),(l[i]).length=k∧∀j (hj:j < (l[i]).length),∃u,xs[i * k+j]?=some u∧Rd (fun b=>ok b∧A≠some ⟨b,0,none⟩) w u (l[i])[j]
section
variable {ok ok':Nat→Prop} {w w':World} {base:Nat} {E:TypeId} {k:Nat} {A:Option Addr} {n c:Nat} {l:bv}
theorem Y9.nil(ok:Nat→Prop)(w:World)(base:Nat)(E:TypeId)(k:Nat):Y9 ok w base E k none 0 0 []:=⟨rfl,[],World.ownsRow_nil w base E k,fun i hi=>absurd hi I⟩
theorem Y9.made(ok:Nat→Prop)(w:World)(base:Nat)(E:TypeId)(k cap:Nat)(cur:Array Value)(hb:base≤w.heap.size)(hm:cap≤maxLen)(hs:cur.size=cap * k):Y9 ok (w.alloc (.cells cur E)) base E k (some ⟨w.heap.size,0,none⟩) 0 cap [] :=
 ⟨rfl,[],World.ownsRow_made w cur cap hb hm hs,fun i hi=>absurd hi I⟩
theorem Y9.addr(h:Y9 ok w base E k A n c l):A=none∨∃g,A=some ⟨g,0,none⟩∧base≤g∧g < w.heap.size:=by
 obtain⟨xs,⟨_,ho⟩,_⟩:=h.own;rcases ho with⟨hv,_⟩ | ⟨g,cap,cur,hv,hbg,hg,_⟩
 ·simp only[Value.slice.injEq]at hv;exact .inl hv.1
 ·simp only[Value.slice.injEq]at hv;refine .inr ⟨g,hv.1,hbg,?_⟩;rcases Nat.lt_or_ge g w.heap.size with hlt | hge
  ·exact hlt
  ·rw[Array.getElem?_eq_none hge]at hg;cases hg
theorem Y9.rd(h:Y9 ok w base E k A n c l):Rd (fun b=>ok b∨base≤b) w (.slice A n c) (.row l):=by
 obtain⟨xs,⟨hx,ho⟩,he⟩:=h.own;have hlen:=h.len;rcases Nat.eq_zero_or_pos n with h0 | h0
 ·subst h0;obtain rfl:l=[]:=List.eq_nil_of_length_eq_zero hlen;exact .nil _ _
 ·rcases ho with⟨_,h1⟩ | ⟨g,cap,cur,hv,hbg,hg,hnc,hcm,hcs,ht⟩
  ·omega
  ·simp only[Value.slice.injEq]at hv;obtain⟨rfl,_,rfl⟩:=hv;refine Rd.mk (k:=k) hlen hnc ?_ (.inr hbg) (fun i hi=>(he i hi).1) (fun i j hi hj=>?_)
   ·rcases Nat.lt_or_ge g w.heap.size with hlt | hge
    ·exact hlt
    ·rw[Array.getElem?_eq_none hge]at hg;cases hg
   ·obtain⟨u,h1,h2⟩:=(he i hi).2 j hj;refine⟨u,?_,h2.mono fun b hb _=>.inl hb.1⟩;have hj':j < k:=by rw[←(he i hi).1];exact hj
    have hlt:i * k+j < n * k:=by
     have:(i+1) * k≤n * k:=Nat.mul_le_mul_right k J;rw[Nat.add_mul]at this;omega
    have e:cur[i * k+j]?=some u:=by
     rw[←h1,←ht,List.getElem?_take_of_lt hlt];simp
    simp[World.cell?,hg,Nat.zero_add,e]
theorem Y9.keep(h:Y9 ok w base E k A n c l)(hs:w.heap.size≤w'.heap.size)(hb:∀g,g < w.heap.size→(ok g∨A=some ⟨g,0,none⟩)→w'.heap[g]?=w.heap[g]?):Y9 ok w' base E k A n c l:=by
 obtain⟨xs,⟨hx,ho⟩,he⟩:=h.own;refine⟨h.len,xs,⟨hx,?_⟩,fun i hi=>⟨(he i hi).1,fun j hj=>?_⟩⟩
 ·rcases ho with hv | ⟨g,cap,cur,hv,hbg,hg,hr⟩
  ·exact .inl hv
  ·refine .inr ⟨g,cap,cur,hv,hbg,?_,hr⟩;simp only[Value.slice.injEq]at hv;rw[hb g ?_ (.inr hv.1)];exact hg;rcases Nat.lt_or_ge g w.heap.size with hlt | hge
   ·exact hlt
   ·rw[Array.getElem?_eq_none hge]at hg;cases hg
 ·obtain⟨u,h1,h2⟩:=(he i hi).2 j hj;exact⟨u,h1,h2.keep hs fun b hb' hlt=>hb b hlt (.inl hb'.1)⟩
theorem Y9.mono(h:Y9 ok w base E k A n c l)(hk:∀b,ok b→b < w.heap.size→ok' b):Y9 ok' w base E k A n c l:=by
 obtain⟨xs,ho,he⟩:=h.own;exact⟨h.len,xs,ho,fun i hi=>⟨(he i hi).1,fun j hj=>by
  obtain⟨u,h1,h2⟩:=(he i hi).2 j hj;exact⟨u,h1,h2.mono fun b hb hlt=>⟨hk b hb.1 hlt,hb.2⟩⟩⟩⟩
end
section
variable {P:Program} {w:World}
theorem a0g(ok:Nat→Prop)(base:Nat)(t ty E:TypeId)(z:Value)(k bytes:Nat)(ht:P.underlying t=some (.slice E))(hinfo:(P.info? E).map (fun i=>(i.zero,i.size,i.bytes))=some (some z,k,bytes))(hz:z.cells.size=k)(hk0:0 < k)
  (A:Option Addr) (n c:Nat) (l:bv) (hown:Y9 ok w base E k A n c l) (A':Option Addr) (m c':Nat) (l':bv) (hm:l'.length=m)
  (hsrc:0 < m→∃b o,A'=some ⟨b,o,none⟩∧∀i (hi:i < l'.length),(l'[i]).length=k∧∀j (hj:j < (l'[i]).length),∃u,w.cell? ⟨b,o+i * k+j,none⟩=some u∧Rd (fun b=>ok b∧A≠some ⟨b,0,none⟩) w u (l'[i])[j]∧u.oneCell'=true)
  (hn:n+m≤maxLen) (hbytes:(n+m) * bytes≤140737488355328) (hbase:base≤w.heap.size) :
  ∃A2 c2 w2,(Builtin.append_ #[t,t] ty #[.slice A n c,.slice A' m c']).run P w=.ok (.slice A2 (n+m) c2) w2∧Y9 ok w2 base E k A2 (n+m) c2 (l++l') ∧
   (∀g,g < w.heap.size→A≠some ⟨g,0,none⟩→w2.heap[g]?=w.heap[g]?)∧w.heap.size≤w2.heap.size∧w2.os=w.os∧w2.tape=w.tape∧w2.output=w.output∧(A2=A∨A2=some ⟨w.heap.size,0,none⟩):=by
 obtain⟨i0,hi0,hz0,hz1,hz2⟩:=info_parts hinfo;rcases Nat.eq_zero_or_pos m with h0 | h0
 ·subst h0;obtain rfl:l'=[]:=List.eq_nil_of_length_eq_zero hm;refine⟨A,c,w,?_,by simpa using hown,fun _ _ _=>rfl,Nat.le_refl _,rfl,rfl,rfl,.inl rfl⟩;obtain⟨xs,⟨_,ho⟩,_⟩:=hown.own;rcases ho with⟨hv,h0⟩ | ⟨g,cap,cur,hv,_,_,hnc,_⟩
  ·simp only[Value.slice.injEq]at hv;obtain⟨rfl,rfl,rfl⟩:=hv;rcases A' with _ | ad <;> simp[Builtin.append_,run_underlying ht,sizeOf,typeInfo,hi0,Builtin.lenOf,Builtin.firstCells,loadCells,loadCellsFrom]
  ·simp only[Value.slice.injEq]at hv;obtain⟨rfl,_,rfl⟩:=hv;rcases A' with _ | ad <;> simp[Builtin.append_,run_underlying ht,sizeOf,typeInfo,hi0,Builtin.lenOf,Builtin.firstCells,hnc,storeCells,loadCells,loadCellsFrom]
 ·obtain⟨b,o,rfl,hel⟩:=hsrc h0;obtain⟨xs,ho,he⟩:=hown.own;have hdiv:∀q,q < m * k→q / k < m∧q % k < k:=fun q hq=>⟨Nat.div_lt_of_lt_mul (by rwa [Nat.mul_comm]at hq),Nat.mod_lt _ hk0⟩
  have JA:∀q,q / k * k+q % k=q:=fun q=>by rw[Nat.mul_comm];exact Nat.div_add_mod q k
  let news:List Value:=(List.range (m * k)).map fun q=>(w.cell? ⟨b,o+q,none⟩).getD (.int .i64 0)
  have hnl:news.length=m * k:=by simp[news]
  have hnew:∀i (hi:i < l'.length) j (hj:j < (l'[i]).length),∃u,news[i * k+j]?=some u∧w.cell? ⟨b,o+(i * k+j),none⟩=some u∧Rd (fun b=>ok b∧A≠some ⟨b,0,none⟩) w u (l'[i])[j]∧u.oneCell'=true:=by
   intro i hi j hj;obtain⟨hk,hj2⟩:=hel i hi;obtain⟨u,h1,h2,h3⟩:=hj2 j hj;have hlt:i * k+j < m * k:=by
    have:(i+1) * k≤m * k:=Nat.mul_le_mul_right k J;rw[Nat.add_mul]at this;omega
   refine⟨u,?_,by rw[←Nat.add_assoc];exact h1,h2,h3⟩;simp only[news];rw[List.getElem?_map,List.getElem?_range hlt,Option.map_some,←Nat.add_assoc,h1,Option.getD_some]
  have hall:∀q u,news[q]?=some u→w.cell? ⟨b,o+q,none⟩=some u∧u.oneCell'=true:=by
   intro q u hq;have hlt:q < m * k:=by rw[←hnl];exact (List.getElem?_eq_some_iff.1 hq).1
   obtain⟨h1,h2⟩:=hdiv q hlt;obtain⟨hk,_⟩:=hel (q / k) J;obtain⟨u',e1,e2,_,e3⟩:=hnew (q / k) J (q % k) J;rw[JA]at e1 e2;rw[hq]at e1;injection e1 with e1
   subst e1;exact⟨e2,e3⟩
  have hadd:∀q,(⟨b,o,none⟩:Addr).add q=⟨b,o+q,none⟩:=fun q=>by
   unfold Addr.add;split
   ·subst q;rfl
   ·rfl
  obtain⟨v',w2,hrun,h2,h3,h4,h5⟩:=run_append_own_at (P:=P) w base t ty E i0 z k bytes ht hi0 hz0 hz1 hz2 hz hk0 _ n xs ho ⟨b,o,none⟩ m c' news hnl (fun q u hq=>by rw[hadd];exact (hall q u hq).1) (by
   intro u hu;obtain⟨q,hq⟩:=List.getElem?_of_mem hu;exact (hall q u hq).2) hn hbytes hbase
  obtain⟨A2,c2,rfl,hA2⟩:∃A2 c2,v'=.slice A2 (n+m) c2∧∃g,A2=some ⟨g,0,none⟩:=by
   rcases h2.2 with⟨_,h0⟩ | ⟨g,cap,cur,rfl,_⟩
   ·omega
   ·exact⟨_,_,rfl,g,rfl⟩
  obtain⟨g2,rfl⟩:=hA2;have Ve:∀g,A=some ⟨g,0,none⟩↔(Value.slice A n c).ownBlock=some g:=by
   intro g;rcases hown.addr with rfl | ⟨g',rfl,_⟩
   ·simp[Value.ownBlock]
   ·simp[Value.ownBlock]
  have hblk:∀g,g < w.heap.size→A≠some ⟨g,0,none⟩→w2.heap[g]?=w.heap[g]?:=fun g hg hne=>h3.block g hg fun e=>hne ((Ve g).2 e.symm)
  have Ud:(some ⟨g2,0,none⟩:Option Addr)=A∨g2=w.heap.size:=by
   rcases h5 with e | e
   ·left;exact ((Ve g2).2 (by rw[←e];rfl)).symm
   ·right;simpa[Value.ownBlock] using e
  have wN:∀u d,Rd (fun b=>ok b∧A≠some ⟨b,0,none⟩) w u d→Rd (fun b=>ok b∧(some ⟨g2,0,none⟩:Option Addr)≠some ⟨b,0,none⟩) w2 u d:=by
   intro u d hr;refine (hr.lt.mono (ok':=fun b=>(ok b∧A≠some ⟨b,0,none⟩)∧b < w.heap.size) fun _ h _=>h).keep h3.size (fun b hb _=>hblk b hb.2 hb.1.2) |>.mono ?_
   intro b hb _;refine⟨hb.1.1,?_⟩;rcases Ud with e | e
   ·rw[e];exact hb.1.2
   ·intro e2;injection e2 with e2
    injection e2 with e2
    have:=hb.2;omega
  refine⟨_,c2,w2,hrun,⟨by rw[List.length_append,hown.len,hm],xs++news,h2,fun i hi=>?_⟩,hblk,h3.size,h3.os,h3.tape,h3.output,?_⟩
  ·have hxl:xs.length=n * k:=ho.1;rw[List.length_append]at hi;by_cases hin:i < l.length
   ·have hil:i < n:=by rw[←hown.len];exact hin
    have e:(l++l')[i]'(by rw[List.length_append];omega)=l[i]:=List.getElem_append_left hin;simp only[e];refine⟨(he i hin).1,fun j hj=>?_⟩;obtain⟨u,h6,h7⟩:=(he i hin).2 j hj;refine⟨u,?_,wN _ _ h7⟩;rw[List.getElem?_append_left ((List.getElem?_eq_some_iff.1 h6).1)];exact h6
   ·have hil:n≤i:=by rw[←hown.len];omega
    have Ue:i - n < l'.length:=by have:=hown.len;omega
    have e:(l++l')[i]'(by rw[List.length_append];omega)=l'[i - n]:=by
     rw[List.getElem_append_right J];congr 1;have:=hown.len;omega
    simp only[e];refine⟨(hel _ Ue).1,fun j hj=>?_⟩;obtain⟨u,h6,_,h7,_⟩:=hnew (i - n) Ue j hj;refine⟨u,?_,wN _ _ h7⟩;have ee:i * k+j=n * k+((i - n) * k+j):=by
     rw[Nat.sub_mul];have:n * k≤i * k:=Nat.mul_le_mul_right k hil;omega
    rw[ee,←hxl,List.getElem?_append_right J,Nat.add_sub_cancel_left];exact h6
  ·rcases Ud with e | e
   ·exact .inl e
   ·right;rw[e]
theorem a0h(t E:TypeId)(z:Value)(k bytes:Nat)(ht:P.underlying t=some (.slice E))(hinfo:(P.info? E).map (fun i=>(i.zero,i.size,i.bytes))=some (some z,k,bytes))
  (kl kc:IntKind) (C:Int) (n:Nat) (hC:C=(n:Int)) (hbytes:bytes * n≤281474976710656) (hn:n≤maxLen) :
  ∃CS:Array Value,CS.size=n * k∧∀w:World,(Instr.makeSlice t (.int kl 0) (.int kc C)).run P w=.ok (.slice (some ⟨w.heap.size,0,none⟩) 0 n) (w.alloc (.cells CS E)):=by
 obtain⟨i0,hi0,hz0,hz1,hz2⟩:=info_parts hinfo;subst hC;have h63':(n:Int)≤9223372036854775807:=by
  have h:=hn;simp[maxLen]at h;omega
 have hb':(i0.bytes:Int) * (n:Int)≤281474976710656:=by
  have h:((i0.bytes * n:Nat):Int)≤281474976710656:=by rw[hz2];omega
  rwa [Int.natCast_mul]at h
 have hr:=fun w:World=>run_make (P:=P) w t E i0 z ht hi0 hz0 kl kc 0 n (Int.le_refl _) J hb' h63'
 simp only[Int.toNat_zero,Int.toNat_natCast]at hr;exact⟨_,by rw[←hz1];exact size_madeCells _ _,hr⟩
theorem Rd.src{ok ok':Nat→Prop}{A A':Option Addr}{m c' k:Nat}{l':bv}(h:Rd ok' w (.slice A' m c') (.row l'))(hok:∀b,ok' b→b < w.heap.size→ok b∧A≠some ⟨b,0,none⟩)(hk:∀x∈l',x.length=k∧∀d∈x,d.one=true) :
  0 < m→∃b o,A'=some ⟨b,o,none⟩∧∀i (hi:i < l'.length),(l'[i]).length=k∧∀j (hj:j < (l'[i]).length),∃u,w.cell? ⟨b,o+i * k+j,none⟩=some u∧Rd (fun b=>ok b∧A≠some ⟨b,0,none⟩) w u (l'[i])[j]∧u.oneCell'=true:=by
 intro h0;obtain⟨b,o,k',rfl,hb,_,hk',hf⟩:=h.cells h0;have hl:=h.len;have e:k'=k:=by rw[←hk' 0 J];exact (hk _ (List.getElem_mem _)).1
 subst e;refine⟨b,o,rfl,fun i hi=>⟨hk' i hi,fun j hj=>?_⟩⟩;obtain⟨u,h1,h2⟩:=hf i j hi hj;exact⟨u,h1,h2.mono hok,h2.one ((hk _ (List.getElem_mem _)).2 _ (List.getElem_mem _))⟩
end
structure Sy where
 pkg:bi
 name:bi
 deriving DecidableEq
end Go.Proofs.YtdkehabacmlegaaGreatDoor
namespace Go.Proofs.YtdkehabacmlegaaGreatDoor
open Tryz
open Go.RowKit Go.ChangeShapes Go.WideShapes Go.Deep
section
variable {H:Type} {enc:TypeId×Value→H} {P:Program} {w:World} {base:Nat} {spare:Nat→Bool} {held:Bool}
theorem Zf(s:ByteArray):Value.string s=str s.data.toList:=by unfold str;rfl
theorem a0i{a:Addr}{q:Nat}{v:Value}(h:w.cell? (a.add 0)=some v):a.add q=⟨a.block,a.off+q,none⟩:=by
 have hs:a.spot=none:=by
  unfold Addr.add at h;simp only[if_true]at h;unfold World.cell? at h;split at h
  ·cases hsp:a.spot with
   |none=>rfl
   |some x=>simp[hsp]at h
  ·cases h
 unfold Addr.add;split
 ·subst q;obtain⟨b,o,sp⟩:=a;simp only at hs;subst hs;rfl
 ·rfl
def Reads(w:World)(cs:List Value)(ds:List Dt):Prop:=cs.length=ds.length∧∀j (hj:j < ds.length),∃u,cs[j]?=some u∧Rd (fun _=>True) w u ds[j]
theorem MJ{α:Type}(iP:α→List Dt)(Good:α→Prop)(k:Nat)(hk:0 < k)(hlen:∀a,(iP a).length=k){t e:TypeId}{fuel:Nat}{cs:List Value}{x:DataW H×List MemPlace}
  (ht:P.underlying t=some (.slice e)) (hc:P.cellsOf e=k) (h:DataW.trod enc P w base spare held fuel t cs=some x)
  (elem:∀n,fuel=n+1→∀cs' y,DataW.trod enc P w base spare held n e cs'=some y→∃a,Good a∧Reads w cs' (iP a)) :
  ∃(A:Option Addr) (n c:Nat) (l:List α),cs=[.slice A n c]∧Rd (fun _=>True) w (.slice A n c) (.row (l.map iP))∧n≤maxLen∧∀a∈l,Good a:=by
 rcases DataW.trod_slice ht h with⟨rfl,_⟩ | ⟨a,len,cap,elems,rest,n,hfu,rfl,_,hb,hl,hm,hel,hx,_,_⟩
 ·exact⟨none,0,0,[],rfl,.nil _ _,Nat.zero_le _,fun s hs=>by cases hs⟩
 ·rw[hc]at hx;have he:∀i,i < len→∃y:α,Good y∧∀j (hj:j < (iP y).length),∃u,w.cell? (a.add (i * k+j))=some u∧Rd (fun _=>True) w u (iP y)[j]:=by
   intro i hi;have h1:=hx i hi;rw[List.getElem?_eq_getElem J]at h1;obtain⟨cs',h2,h3⟩:=Option.bind_eq_some_iff.1 h1;obtain⟨y,hg,hr⟩:=elem n hfu cs' _ h3;refine⟨y,hg,fun j hj=>?_⟩;obtain⟨u,h4,h5⟩:=hr.2 j hj;obtain⟨_,hcl,hat⟩:=World.cells?_some h2;have hjk:j < k:=by rw[←hlen y];exact hj
   have:=hat j hjk;rw[Go.Deep.add_add]at this;exact⟨u,by rw[this,h4],h5⟩
  rcases Nat.eq_zero_or_pos len with e0 | e0
  ·subst e0;exact⟨some a,0,cap,[],rfl,.nil _ _,Nat.zero_le _,fun s hs=>by cases hs⟩
  ·obtain⟨y0,_,_⟩:=he 0 e0;have hch:∃f:Nat→α,∀i,i < len→Good (f i)∧∀j (hj:j < (iP (f i)).length),∃u,w.cell? (a.add (i * k+j))=some u∧Rd (fun _=>True) w u (iP (f i))[j]:=by
    refine⟨fun i=>if h:i < len then Classical.choose (he i h) else y0,fun i hi=>?_⟩;simp only[hi,dif_pos];exact Classical.choose_spec (he i hi)
   obtain⟨f,hf⟩:=hch;obtain⟨u0,h00,_⟩:=(hf 0 e0).2 0 (by rw[hlen];exact hk);have Uf:w.cell? (a.add 0)=some u0:=by simpa using h00
   have hadd:∀q,a.add q=⟨a.block,a.off+q,none⟩:=fun q=>a0i Uf
   have ha:a=⟨a.block,a.off,none⟩:=by
    have:=hadd 0;simpa[Addr.add] using this
   refine⟨some a,len,cap,(List.range len).map f,rfl,?_,Nat.le_trans hl hm,?_⟩
   ·rw[ha];refine Rd.mk (k:=k) I hl (World.block_lt_of_cell? _ _ Uf |> fun h=>by simpa[hadd] using h) trivial (fun i hi=>?_) (fun i j hi hj=>?_)
    ·rw[List.getElem_map];exact hlen _
    ·have hi':i < len:=by simpa using hi
     simp only[List.getElem_map,List.getElem_range]at hj ⊢
     obtain⟨u,g0,g1⟩:=(hf i hi').2 j hj;rw[hadd]at g0;exact⟨u,by rw[←g0,Nat.add_assoc],g1⟩
   ·intro s hs;obtain⟨i,hi,rfl⟩:=List.mem_map.1 hs;exact (hf i (List.mem_range.1 hi)).1
end
structure Raw where
 kind:Int
 n:Int
 s:bi
 l:List Raw
namespace Raw
mutual
def enc:Raw→List Dt
 |⟨k,n,s,l⟩=>[.val (.int .i64 k),.val (.int .i64 n),.val (str s),.row (y8 l)]
def y8:List Raw→bv
 |[]=>[]
 |o::r=>enc o::y8 r
end
mutual
def size:Raw→Nat
 |⟨_,_,_,l⟩=>dC l+1
def dC:List Raw→Nat
 |[]=>0
 |o::r=>size o+dC r
end
theorem Fg(l:List Raw):y8 l=l.map enc:=by
 induction l with
 |nil=>rfl
 |cons o r ih=>rw[y8,ih];rfl
theorem lD(o:Raw):o.enc=[.val (.int .i64 o.kind),.val (.int .i64 o.n),.val (str o.s),.row (o.l.map enc)]:=by
 cases o;rw[enc,Fg]
theorem jV(o:Raw):o.enc.length=4:=by rw[lD];rfl
theorem size_pos(o:Raw):0 < o.size:=by cases o;rw[size];omega
theorem EJ{l:List Raw}{o:Raw}(h:o∈l):o.size≤dC l:=by
 induction l with
 |nil=>cases h
 |cons x r ih =>
  rw[dC];rcases List.mem_cons.1 h with rfl | h
  ·omega
  ·have:=ih h;omega
theorem tK{o x:Raw}(h:x∈o.l):x.size < o.size:=by
 obtain⟨k,n,s,l⟩:=o;rw[size];have:=EJ (l:=l) h;omega
theorem ind{motive:Raw→Prop}(step:∀o,(∀x∈o.l,motive x)→motive o)(o:Raw):motive o:=by
 have:∀n (o:Raw),o.size≤n→motive o:=by
  intro n
  induction n with
  |zero=>intro o h;have:=size_pos o;omega
  |succ n ih=>intro o h;exact step o fun x hx=>ih x (by have:=tK hx;omega)
 exact this o.size o (Nat.le_refl _)
inductive Wf:Raw→Prop
 |mk (o:Raw) (k0:-9223372036854775808≤o.kind) (k1:o.kind≤9223372036854775807) (n0:-9223372036854775808≤o.n) (n1:o.n≤9223372036854775807) (hs:o.s.length≤9223372036854775807) (hl:o.l.length≤9223372036854775807) (h:∀x∈o.l,Wf x):Wf o
end Raw
section
variable {H:Type} {enc:TypeId×Value→H} {w:World} {base:Nat} {spare:Nat→Bool} {held:Bool}
theorem Fh:prog.cellsOf 58=4:=by kernel_rfl
theorem a5q:prog.cellsOf 3=1:=by kernel_rfl
theorem cellsS:prog.cellsOf 9=1:=by kernel_rfl
theorem a2E:prog.cellsOf 22=1:=by kernel_rfl
theorem a0j{s:ByteArray}(h:s.size≤maxLen):s.data.toList.length≤9223372036854775807:=by unfold maxLen at h;rw[←Lib.size_eq];exact h
theorem a0k:∀(fuel:Nat) (cs:List Value) (x:DataW H×List MemPlace),DataW.trod enc prog w base spare held fuel 58 cs=some x→∃r:Raw,r.Wf∧Reads w cs r.enc:=by
 intro fuel
 induction fuel using Nat.strongRecOn with
 |_ fuel ih =>
  intro cs x h;obtain⟨xs,n,hfu,_,hlen,hxl,hf⟩:=DataW.trod_struct Tryz.underlying58 h;rw[Fh]at hlen
  match cs,hlen with
  |[c0,c1,c2,c3],_ =>
   have f0:DataW.trod enc prog w base spare held n 3 (List.take (prog.cellsOf 3) (List.drop 0 [c0,c1,c2,c3]))=xs[0]?:=hf 0 _ rfl;have f1:DataW.trod enc prog w base spare held n 3 (List.take (prog.cellsOf 3) (List.drop 1 [c0,c1,c2,c3]))=xs[1]?:=hf 1 _ rfl;have f2:DataW.trod enc prog w base spare held n 9 (List.take (prog.cellsOf 9) (List.drop 2 [c0,c1,c2,c3]))=xs[2]?:=hf 2 _ rfl;have f3:DataW.trod enc prog w base spare held n 22 (List.take (prog.cellsOf 22) (List.drop 3 [c0,c1,c2,c3]))=xs[3]?:=hf 3 _ rfl;rw[a5q]at f0 f1;rw[cellsS]at f2;rw[a2E]at f3
   match xs,hxl with
   |[y0,y1,y2,y3],_ =>
    replace f0:DataW.trod enc prog w base spare held n 3 [c0]=some y0:=f0
    replace f1:DataW.trod enc prog w base spare held n 3 [c1]=some y1:=f1
    replace f2:DataW.trod enc prog w base spare held n 9 [c2]=some y2:=f2
    replace f3:DataW.trod enc prog w base spare held n 22 [c3]=some y3:=f3
    obtain⟨k,e0,_,w0⟩:=DataW.trod_int Tryz.underlying3 f0;obtain⟨m,e1,_,w1⟩:=DataW.trod_int Tryz.underlying3 f1;obtain⟨s,e2,_,w2⟩:=DataW.trod_string Tryz.underlying9 f2;obtain⟨A,n',c',l,e3,hr,hn,hg⟩:=MJ Raw.enc Raw.Wf 4 J Raw.jV Tryz.underlying22 Fh f3 (fun n'' b4w cs' y hy=>ih n'' J cs' y hy);injection e0 with e0
    injection e1 with e1
    injection e2 with e2
    injection e3 with e3
    have b0:=bounds_i64 w0;have b1:=bounds_i64 w1;have hll:l.length=n':=by have:=hr.len;rwa [List.length_map]at this
    refine⟨⟨k,m,s.data.toList,l⟩,.mk _ b0.1 b0.2 b1.1 b1.2 (a0j w2) (by show l.length≤_;rw[hll];unfold maxLen at hn;exact hn) hg,by rw[Raw.jV];rfl,fun j hj=>?_⟩
    simp only[Raw.lD];rw[Raw.jV]at hj;rcases j with _ | _ | _ | _ | j
    ·exact⟨c0,rfl,by rw[e0];exact .val _⟩
    ·exact⟨c1,rfl,by rw[e1];exact .val _⟩
    ·exact⟨c2,rfl,by rw[e2,Zf];exact .val _⟩
    ·exact⟨c3,rfl,by rw[e3];exact hr⟩
    ·omega
end
end Go.Proofs.YtdkehabacmlegaaGreatDoor
namespace Go.Proofs.YtdkehabacmlegaaGreatDoor
open Tryz
open Go.RowKit
theorem GH{D:ByteArray}{l:bi}(h:D.data.toList=l)(k:Nat)(hk:k < D.size):∃hl:k < l.length,D[k]=l[k]:=by
 subst h;exact⟨by rw[←Lib.size_eq];exact hk,rfl⟩
def IY(c:UInt8):Bool:=decide (97≤c.toNat) && decide (c.toNat≤122)
def Sq(c:UInt8):Bool:=IY c || decide (c.toNat=45) || (decide (48≤c.toNat) && decide (c.toNat≤57))
def iM(i:Nat)(c:UInt8):Bool:=if i=0 then IY c else Sq c
def dQ(l:bi):Bool:=decide (1≤l.length) && decide (l.length≤40) && (List.range l.length).all fun i=>iM i (l.getD i 0)
def gK(l:bi):Bool:=decide (1≤l.length) && decide (l.length≤40)
def P7(s:Sy):Bool:=dQ s.pkg && gK s.name
theorem Ag{l:bi}{k:Nat}(hk:k < l.length)(h:iM k l[k]=false):dQ l=false:=by
 unfold dQ;rw[Bool.and_eq_false_iff];right;rw[Bool.eq_false_iff];intro hc;have:=List.all_eq_true.1 hc k (List.mem_range.2 hk);rw[List.getD_eq_getElem?_getD,List.getElem?_eq_getElem hk]at this;simp only[Option.getD_some]at this;rw[h]at this;cases this
theorem LV{l:bi}(h1:1≤l.length)(h2:l.length≤40)(h:∀i (hi:i < l.length),iM i l[i]=true):dQ l=true:=by
 unfold dQ;simp only[Bool.and_eq_true,decide_eq_true_eq];refine⟨⟨h1,h2⟩,List.all_eq_true.2 fun i hi=>?_⟩;have hi:=List.mem_range.1 hi;rw[List.getD_eq_getElem?_getD,List.getElem?_eq_getElem hi];exact h i hi
theorem nC{i:Nat}{c:UInt8}:iM i c=true↔((97≤c.toNat∧c.toNat≤122)∨(i≠0∧(c.toNat=45∨(48≤c.toNat∧c.toNat≤57)))):=by
 unfold iM Sq IY;by_cases h:i=0 <;> simp[h]
 omega
theorem Ab{i:Nat}{c:UInt8}:iM i c=false↔¬((97≤c.toNat∧c.toNat≤122)∨(i≠0∧(c.toNat=45∨(48≤c.toNat∧c.toNat≤57)))):=by
 rw[←nC];simp
theorem Ah{l:bi}(h:l.length < 1∨40 < l.length):dQ l=false:=by
 unfold dQ;rcases h with h | h
 ·have:decide (1≤l.length)=false:=by simpa using h
  rw[this];rfl
 ·have:decide (l.length≤40)=false:=by simpa using h
  rw[this];simp
theorem Ac{l:bi}(h:l.length < 1∨40 < l.length):gK l=false:=by
 unfold gK;rcases h with h | h
 ·have:decide (1≤l.length)=false:=by simpa using h
  rw[this];rfl
 ·have:decide (l.length≤40)=false:=by simpa using h
  rw[this];simp
theorem ML(c:Nat):(97≤c∧c≤122)∨(c=45∧c≤45)∨(48≤c∧c≤57)∨(c < 48∧c≠45)∨(57 < c∧c < 97)∨(122 < c∧c≠45):=J
theorem WX(l:bi)(w:World)(hl:l.length≤9223372036854775807) :
  Calls prog 245 #[str l] w (Ff (.bool (dQ l)) w):=by
 obtain⟨D,hD⟩:∃D:ByteArray,D=⟨l.toArray⟩:=⟨_,rfl⟩;unfold str;rw[←hD];have HT:Hid (D.data.toList=l):=by rw[hD];exact (rfl:l.toArray.toList=l)
 have bQ:Hid (D.size=l.length):=by show _=_;rw[Lib.size_eq,HT.out]
 have hsz:D.size≤9223372036854775807:=by rw[bQ.out];exact hl
 clear hD hl;by_cases h1:D.size < 1
 ·have HR:=Lib.hid (Ah (l:=l) (.inl (by rw[←bQ.out];exact h1)))
  go_enter func245,ntmps245
  go_wp2;go_ret;exact⟨by rw[HR.out];rfl,rfl⟩
 ·by_cases h2:40 < D.size
  ·have HR:=Lib.hid (Ah (l:=l) (.inr (by rw[←bQ.out];exact h2)))
   go_enter func245,ntmps245
   go_wp2;go_ret;exact⟨by rw[HR.out];rfl,rfl⟩
  ·have hp:0 < D.size:=J;obtain⟨hl0,e0⟩:=GH HT.out 0 hp;have E0:=Lib.hid e0;clear e0;by_cases h3:97≤D[0].toNat∧D[0].toNat≤122
   ·obtain⟨h3,h4⟩:=h3
    go_enter func245,ntmps245
    go_wp2
    go_loop [3] (fun ix=>∃k:Nat,k≤D.size∧ix=.int .i64 k∧Hid (∀i (hi:i < l.length),i < k→iM i l[i]=true)) (fun ix=>D.size - (intOf ix).toNat)
    case atStart=>exact⟨0,Nat.zero_le _,rfl,Lib.hid (fun i _ h=>absurd h J)⟩
    case round =>
     obtain⟨k,hk,rfl,HK⟩:=hrel;by_cases hlt:k < D.size
     ·obtain⟨hkl,ek⟩:=GH HT.out k hlt;have EK:=Lib.hid ek;have HU:Hid (iM k l[k]=true→∀i (hi:i < l.length),i < k+1→iM i l[i]=true):=fun hc i hi h=>by
       rcases Nat.lt_or_ge i k with h' | h'
       ·exact HK.out i hi h'
       ·obtain rfl:i=k:=J;exact hc
      have H0:Hid (k=0→97≤D[k].toNat∧D[k].toNat≤122):=fun e=>by subst e;exact⟨h3,h4⟩
      clear ek;rcases ML D[k].toNat with⟨g1,g2⟩ | ⟨g1,g2⟩ | ⟨g1,g2⟩ | ⟨g1,g2⟩ | ⟨g1,g2⟩ | ⟨g1,g2⟩
      ·go_wp2
       go_round
       case rel=>exact⟨k+1,J,by go_num,Lib.hid (HU.out (nC.2 (by rw[←EK.out];omega)))⟩
       case measure=>simp only[intOf];omega
      ·have hne:((D[k].toNat:Int) != 45)=false:=by rw[bne_eq_false_iff_eq];omega
       have hk0:k≠0:=fun e=>by have:=H0.out e;omega
       go_wp2
       go_round
       case rel=>exact⟨k+1,J,by go_num,Lib.hid (HU.out (nC.2 (by rw[←EK.out];omega)))⟩
       case measure=>simp only[intOf];omega
      ·have hk0:k≠0:=fun e=>by have:=H0.out e;omega
       go_wp2
       go_round
       case rel=>exact⟨k+1,J,by go_num,Lib.hid (HU.out (nC.2 (by rw[←EK.out];omega)))⟩
       case measure=>simp only[intOf];omega
      all_goals
       have hne:((D[k].toNat:Int) != 45)=true:=by rw[bne_iff_ne];omega
       have HR:=Lib.hid (Ag hkl (Ab.2 (by rw[←EK.out];omega)));go_wp2;go_ret;exact⟨by rw[HR.out];rfl,rfl⟩
     ·have HR:=Lib.hid (LV (l:=l) (by rw[←bQ.out];omega) (by rw[←bQ.out];omega) (fun i hi=>HK.out i hi (by rw[←bQ.out]at hi;omega)));go_wp2;go_ret;exact⟨by rw[HR.out];rfl,rfl⟩
   ·have HR:=Lib.hid (Ag hl0 (Ab.2 (by rw[←E0.out];omega)));rcases Nat.lt_or_ge D[0].toNat 97 with h5 | h5
    ·go_enter func245,ntmps245
     go_wp2;go_ret;exact⟨by rw[HR.out];rfl,rfl⟩
    ·have h6:122 < D[0].toNat:=J
     go_enter func245,ntmps245
     go_wp2;go_ret;exact⟨by rw[HR.out];rfl,rfl⟩
theorem Lb(s:Sy)(w:World)(hp:s.pkg.length≤9223372036854775807)(hn:s.name.length≤9223372036854775807) :
  Calls prog 271 #[.agg #[str s.pkg,str s.name]] w (I7 (.bool (P7 s)) w):=by
 obtain⟨l,m⟩:=s;unfold str;dsimp only at hp hn ⊢;obtain⟨D,hD⟩:∃D:ByteArray,D=⟨l.toArray⟩:=⟨_,rfl⟩;obtain⟨E,hE⟩:∃E:ByteArray,E=⟨m.toArray⟩:=⟨_,rfl⟩;rw[←hD,←hE];have HT:Hid (D.data.toList=l):=by rw[hD];exact (rfl:l.toArray.toList=l)
 have bQ:Hid (D.size=l.length):=by show _=_;rw[Lib.size_eq,HT.out]
 have CE:Hid (E.size=m.length):=by show _=_;rw[Lib.size_eq,hE]
 have hsz:D.size≤9223372036854775807:=by rw[bQ.out];exact hp
 have hsm:E.size≤9223372036854775807:=by rw[CE.out];exact hn
 clear hD hE hp hn;have HP:Hid (dQ l=false→P7 ⟨l,m⟩=false):=fun h=>by unfold P7;rw[h];rfl
 have HM:Hid (gK m=false→P7 ⟨l,m⟩=false):=fun h=>by unfold P7;rw[h];simp
 by_cases h1:D.size < 1
 ·have HR:=Lib.hid (HP.out (Ah (.inl (by rw[←bQ.out];exact h1))))
  go_enter func271,ntmps271
  go_wp2;go_ret;exact⟨by rw[HR.out];rfl,(Below.refl _ _).alloc (Nat.le_refl _) _⟩
 by_cases h2:40 < D.size
 ·have HR:=Lib.hid (HP.out (Ah (.inr (by rw[←bQ.out];exact h2))))
  go_enter func271,ntmps271
  go_wp2;go_ret;exact⟨by rw[HR.out];rfl,(Below.refl _ _).alloc (Nat.le_refl _) _⟩
 by_cases h3:E.size < 1
 ·have HR:=Lib.hid (HM.out (Ac (.inl (by rw[←CE.out];exact h3))))
  go_enter func271,ntmps271
  go_wp2;go_ret;exact⟨by rw[HR.out];rfl,(Below.refl _ _).alloc (Nat.le_refl _) _⟩
 by_cases h4:40 < E.size
 ·have HR:=Lib.hid (HM.out (Ac (.inr (by rw[←CE.out];exact h4))))
  go_enter func271,ntmps271
  go_wp2;go_ret;exact⟨by rw[HR.out];rfl,(Below.refl _ _).alloc (Nat.le_refl _) _⟩
 have HN:Hid (gK m=true):=by show _=_;unfold gK;rw[←CE.out];simp;omega
 go_enter func271,ntmps271
 go_wp2
 go_loop [31] (fun ix=>∃k:Nat,k≤D.size∧ix=.int .i64 k∧Hid (∀i (hi:i < l.length),i < k→iM i l[i]=true)) (fun ix=>D.size - (intOf ix).toNat)
 case atStart=>exact⟨0,Nat.zero_le _,rfl,Lib.hid (fun i _ h=>absurd h J)⟩
 case round =>
  obtain⟨k,hk,rfl,HK⟩:=hrel;by_cases hlt:k < D.size
  ·obtain⟨hkl,ek⟩:=GH HT.out k hlt;have EK:=Lib.hid ek;have HU:Hid (iM k l[k]=true→∀i (hi:i < l.length),i < k+1→iM i l[i]=true):=fun hc i hi h=>by
    rcases Nat.lt_or_ge i k with h' | h'
    ·exact HK.out i hi h'
    ·obtain rfl:i=k:=J;exact hc
   clear ek;rcases Nat.eq_zero_or_pos k with hk0 | hk0
   ·subst hk0;by_cases g:97≤D[0].toNat∧D[0].toNat≤122
    ·obtain⟨g1,g2⟩:=g;go_wp2
     go_round
     case rel=>exact⟨1,J,rfl,Lib.hid (HU.out (nC.2 (by rw[←EK.out];omega)))⟩
     case measure=>simp only[intOf];omega
    ·have HR:=Lib.hid (HP.out (Ag hkl (Ab.2 (by rw[←EK.out];omega))));rcases Nat.lt_or_ge D[0].toNat 97 with g1 | g1
     ·go_wp2;go_ret;exact⟨by rw[HR.out];rfl,(Below.refl _ _).alloc (Nat.le_refl _) _⟩
     ·have g2:122 < D[0].toNat:=J;have hd:decide ((D[0].toNat:Int)≤122)=false:=by simp;omega
      go_wp2;go_ret;exact⟨by rw[HR.out];rfl,(Below.refl _ _).alloc (Nat.le_refl _) _⟩
   ·have e0:((k:Int) == 0)=false:=by rw[beq_eq_false_iff_ne];omega
    rcases ML D[k].toNat with⟨g1,g2⟩ | ⟨g1,g2⟩ | ⟨g1,g2⟩ | ⟨g1,g2⟩ | ⟨g1,g2⟩ | ⟨g1,g2⟩
    ·go_wp2
     go_round
     case rel=>exact⟨k+1,J,by go_num,Lib.hid (HU.out (nC.2 (by rw[←EK.out];omega)))⟩
     case measure=>simp only[intOf];omega
    ·have hne:((D[k].toNat:Int) != 45)=false:=by rw[bne_eq_false_iff_eq];omega
     go_wp2
     go_round
     case rel=>exact⟨k+1,J,by go_num,Lib.hid (HU.out (nC.2 (by rw[←EK.out];omega)))⟩
     case measure=>simp only[intOf];omega
    ·have hne:((D[k].toNat:Int) != 45)=true:=by rw[bne_iff_ne];omega
     go_wp2
     go_round
     case rel=>exact⟨k+1,J,by go_num,Lib.hid (HU.out (nC.2 (by rw[←EK.out];omega)))⟩
     case measure=>simp only[intOf];omega
    all_goals
     have hne:((D[k].toNat:Int) != 45)=true:=by rw[bne_iff_ne];omega
     have HR:=Lib.hid (HP.out (Ag hkl (Ab.2 (by rw[←EK.out];omega))))
     first
      | (have hd:decide ((D[k].toNat:Int)≤122)=false:=(by simp;omega);have hd2:97≤D[k].toNat:=J;go_wp2;go_ret;exact⟨by rw[HR.out];rfl,(Below.refl _ _).alloc (Nat.le_refl _) _⟩)
      | (go_wp2;go_ret;exact⟨by rw[HR.out];rfl,(Below.refl _ _).alloc (Nat.le_refl _) _⟩)
  ·have HR:Hid (P7 ⟨l,m⟩=true):=by
    show _=_;unfold P7;rw[LV (by rw[←bQ.out];omega) (by rw[←bQ.out];omega) (fun i hi=>HK.out i hi (by rw[←bQ.out]at hi;omega)),HN.out];rfl
   go_wp2;go_ret;exact⟨by rw[HR.out];rfl,(Below.refl _ _).alloc (Nat.le_refl _) _⟩
theorem Lc(n:Int)(w:World)(ht:Q4 w)(h0:-9223372036854775808≤n)(h1:n≤9223372036854775807) :
  Calls prog 254 #[.int .i64 n,.int .i64 10] w fun e w'=>e=.returned (.string ⟨(Lib.itoa n).toArray⟩)∧Below w.heap.size w w':=by
 refine (Tryz.strconv_FormatInt_10 n h0 h1 w ht).mono ?_;rintro e w' ⟨rfl,k,os,rfl⟩;exact⟨rfl,Lib.below_grow _ _ (Nat.le_refl _) _ _⟩
theorem MM(k:Nat)(hk:k≤9):((⟨#[48,48,48,48,48,48,48,48,48]⟩:ByteArray).extract k 9).data.toList=List.replicate (9 - k) 48:=by
 rw[Lib.extract_data];have:∀j:Fin 10,((([48,48,48,48,48,48,48,48,48]:bi).drop j.val).take (9 - j.val))=List.replicate (9 - j.val) 48:=O;exact this ⟨k,J⟩
theorem Lj{B:Nat}(hB:2≤B):∀(l:List Nat) (h:l≠[]),l.getLast h≠0→j4.u7 B l≠0
 |[],h,_=>absurd rfl h
 |[x],_,hl=>by simpa[j4.u7] using hl
 |x::y::r,_,hl=>by
  have:=Lj hB (y::r) I (by simpa using hl);simp only[j4.u7]at this ⊢
  have h2:0 < B * (y+B * j4.u7 B r):=Nat.mul_pos J J;omega
theorem Xz{B v j:Nat}(hB:2≤B)(hj:j < (j4.limbs B v).length):j4.u7 B ((j4.limbs B v).drop j)≠0:=by
 have hne:(j4.limbs B v).drop j≠[]:=by intro e;have:=congrArg List.length e;rw[List.length_drop]at this;simp at this;omega
 refine Lj hB _ hne ?_;rw[List.getLast_drop];exact j4.Xi hB v _
theorem Ll{v j:Nat}(h0:0 < j)(hj:j < (j4.limbs 1000000000 v).length) :
  Lib.decDigits (j4.u7 1000000000 ((j4.limbs 1000000000 v).drop (j - 1)))=Lib.decDigits (j4.u7 1000000000 ((j4.limbs 1000000000 v).drop j))++(List.replicate (9 - (Lib.decDigits ((j4.limbs 1000000000 v).getD (j - 1) 0)).length) 48++Lib.decDigits ((j4.limbs 1000000000 v).getD (j - 1) 0)):=by
 obtain⟨m,rfl⟩:∃m,j=m+1:=⟨j - 1,J⟩;rw[Nat.add_sub_cancel,j4.nD _ _ m J,j4.Xj (Xz J hj) ((j4.K7 J v).getD J m)];rfl
def dB(ng:Bool):bi:=if ng then [45] else []
theorem MN(ng:Bool){v:Nat}(hv:v≠0):Lib.itoa (if ng then -(v:Int) else v)=dB ng++Lib.decDigits v:=by
 cases ng
 ·simp[dB,j4.lh]
 ·simp[dB,j4.vK hv]
theorem Ld(w:World)(T e:TypeId):Lib.IsBuilder T e w.heap.size w.heap.size (Lib.byteCells []) (w.alloc (.cells #[.pointer none,.slice none 0 0] T)) :=
 .inl ⟨Nat.le_refl _,.slice none 0 0,heap_alloc_new w _,World.ownsRow_nil _ _ _ _,by simp[Value.ownBlock]⟩
def aP(ng:Bool)(v:Nat):bi:=Lib.itoa (if ng then -(v:Int) else v)
def aQ(l:bi)(w:World)(e:Ending)(w':World):Prop:=e=.returned (.string ⟨l.toArray⟩)∧Below w.heap.size w w'
theorem Eh(ng:Bool):(dB ng).length≤1:=by cases ng <;> simp[dB]
theorem zW(ng:Bool):aP ng 0=[48]:=by cases ng <;> exact j4.fI
theorem zN{T e:TypeId}{B b:Nat}{bs:List Value}{w w':World}(h:Lib.IsBuilder T e B b bs w)(hb:Below w.heap.size w w'):Lib.IsBuilder T e B b bs w':=by
 have key:∀p,Lib.BuilderAt T e B b p bs w→Lib.BuilderAt T e B b p bs w':=by
  rintro p ⟨h1,v,h2,h3,h4⟩;have hlt:b < w.heap.size:=by
   rcases Nat.lt_or_ge b w.heap.size with h | h
   ·exact h
   ·rw[Array.getElem?_eq_none h]at h2;cases h2
  refine⟨h1,v,(hb.block b hlt).trans h2,⟨h3.1,?_⟩,h4⟩;rcases h3.2 with hv | ⟨g,cap,cur,hv,hbg,hg,hr⟩
  ·exact .inl hv
  ·refine .inr ⟨g,cap,cur,hv,hbg,?_,hr⟩;rw[hb.block g ?_];exact hg;rcases Nat.lt_or_ge g w.heap.size with h | h
   ·exact h
   ·rw[Array.getElem?_eq_none h]at hg;cases hg
 exact h.imp (key _) (key _)
theorem vO{w W1 w':World}{T:TypeId}{u v:Value}(h:W1=w.alloc (.cells #[u,v] T))(hb:Below (w.heap.size+1) W1 w'):w'.cell? ⟨w.heap.size,0,none⟩=some u∧w'.cell? ⟨w.heap.size,1,none⟩=some v:=by
 subst h;have hk:=(y9.new w T #[u,v]).keep (hb.block w.heap.size J);exact⟨hk.cell 0,hk.cell 1⟩
theorem Ap(k:Nat):((⟨#[48,48,48,48,48,48,48,48,48]⟩:ByteArray).extract k 9).size≤9:=by
 rw[Lib.size_eq,Lib.extract_data,List.length_take,List.length_drop];simp
theorem LD(ng:Bool){v n:Nat}(hl:(j4.limbs 1000000000 v).length=n)(hn:n≤100000000)(j:Nat):(dB ng++Lib.decDigits (j4.u7 1000000000 ((j4.limbs 1000000000 v).drop j))).length≤1000000000000:=by
 have h1:=Eh ng;have h2:=j4.iK (B:=1000000000) J ((j4.K7 J v).drop j);rw[List.length_drop,hl]at h2;have h3:(1000000000:Nat) ^ (n - j)≤10 ^ (9 * n+1):=by
  have e:(1000000000:Nat)=10 ^ 9:=O;rw[e,←Nat.pow_mul];exact Nat.pow_le_pow_right J J
 have h4:=j4.ny (k:=9 * n+1) J (Nat.lt_of_lt_of_le h2 h3);rw[List.length_append];omega
theorem pQ(ng:Bool)(A:Option Addr)(n c v:Nat)(w:World)(hx:Sl w .u32 A n c (j4.limbs 1000000000 v))(hn:n≤100000000)(ht:Q4 w) :
  Calls prog 257 #[.agg #[.bool ng,.slice A n c]] w (aQ (aP ng v) w):=by
 have HL:=Lib.hid hx.len;by_cases h0:n=0
 ·have hv:v=0:=(j4.kW (B:=1000000000) J).1 (List.eq_nil_of_length_eq_zero (by rw[HL.out];exact h0));subst h0;subst hv
  go_enter func257,ntmps257
  go_wp2;go_ret;refine⟨?_,(Below.refl _ _).alloc (Nat.le_refl _) _⟩;rw[zW];rfl
 ·have hv:v≠0:=fun e=>h0 (by rw[←HL.out,e];rfl)
  have Vf:Hid (∀g,aP g v=dB g++Lib.decDigits v):=fun g=>MN g hv
  have hb0:((n:Int) == 0)=false:=by rw[beq_eq_false_iff_ne];omega
  obtain⟨b,off,rfl,hbl,hcx⟩:=hx.cells J;have hct:=hcx (n - 1) J;clear hcx;have hu:=getD_lt (l:=j4.limbs 1000000000 v) (j4.K7 J v) J (n - 1);have IZ:Hid (j4.u7 1000000000 ((j4.limbs 1000000000 v).drop (n - 1))=(j4.limbs 1000000000 v).getD (n - 1) 0):=by
   show _=_;rw[j4.nD _ _ (n - 1) (by rw[HL.out];omega),List.drop_of_length_le (by rw[HL.out];omega)];simp[j4.u7]
  generalize (j4.limbs 1000000000 v).getD (n - 1) 0=u at hct hu IZ;clear hv;cases ng
  ·have HS:=Lib.hid (Vf.out false)
   go_enter func257,ntmps257
   go_wp2_with fail
   obtain⟨W1,hW1⟩:∃W1,W1=w.alloc (.cells #[.bool false,.slice (some ⟨b,off,none⟩) n c] 279):=⟨_,rfl⟩;have dU:W1.heap.size=w.heap.size+1:=by rw[hW1];simp
   have qz:Below w.heap.size w W1:=by rw[hW1];exact (Below.refl _ _).alloc (Nat.le_refl _) _
   rw[←hW1];have hbu:=Ld W1 300 5;rw[dU]at hbu;have hbx:Below (w.heap.size+1) W1 (W1.alloc (.cells #[.pointer none,.slice none 0 0] 300)):=(Below.refl _ _).alloc (by rw[dU];exact Nat.le_refl _) _;refine (sH (u:Int) _ ((ht.below qz).alloc _) J J).mono ?_;rintro e w2 ⟨rfl,hb2⟩;have xI:Below (w.heap.size+1) W1 w2:=hbx.trans (hb2.mono (by rw[World.size_alloc,dU];omega));have hB2:Lib.IsBuilder 300 5 (w.heap.size+1) (w.heap.size+1) (Lib.byteCells (dB false)) w2:=zN hbu hb2;have HI:Hid (Lib.itoa (u:Int)=Lib.decDigits u):=j4.lh;have hdl:=j4.ny (k:=9) (u:=u) J J;rw[HI.out];obtain⟨S,hS⟩:∃S:ByteArray,S=⟨(Lib.decDigits u).toArray⟩:=⟨_,rfl⟩;rw[←hS];have yB:Hid (S.data.toList=Lib.decDigits u):=by rw[hS];exact (rfl:(Lib.decDigits u).toArray.toList=_)
   have hS9:S.size≤9:=by rw[Lib.size_eq,yB.out];exact hdl
   clear hS hdl
   go_wp2_with fail
   refine (rQ (w.heap.size+1) (w.heap.size+1) _ S _ hB2 (by rw[Lib.byteCells_length];have:=Eh false;omega) (by have:=xI.size;rw[dU]at this;exact this)).mono ?_
   rintro e w3 ⟨rfl,hB3,hb3⟩;have xJ:Below (w.heap.size+1) W1 w3:=xI.trans hb3;have Ja:Lib.IsBuilder 300 5 (w.heap.size+1) (w.heap.size+1) (Lib.byteCells (dB false++Lib.decDigits (j4.u7 1000000000 ((j4.limbs 1000000000 v).drop (n - 1))))) w3:=by
    rw[IZ.out,Lib.byteCells_append];have:=hB3;rw[Lib.strCells_eq,yB.out]at this;exact .inr this
   obtain⟨q0,q1⟩:=vO hW1 xJ;go_wp2
   go_loopw [4] (fun ix wr=>∃j:Nat,j < n∧ix=.int .i64 ((j:Int) - 1)∧Lib.IsBuilder 300 5 (w.heap.size+1) (w.heap.size+1) (Lib.byteCells (dB false++Lib.decDigits (j4.u7 1000000000 ((j4.limbs 1000000000 v).drop j)))) wr∧Below (w.heap.size+1) W1 wr) (fun ix _=>(intOf ix+1).toNat)
   case atStart=>exact⟨n - 1,J,by go_num,Ja,xJ⟩
   case round =>
    obtain⟨j,hj,rfl,hBr,hbr⟩:=hrel;obtain⟨p0,p1⟩:=vO hW1 hbr;have hbw:Below w.heap.size w wr:=qz.trans (hbr.mono J);have xK:w.heap.size+1≤wr.heap.size:=by have:=hbr.size;rw[dU]at this;exact this
    by_cases hj0:0 < j
    ·obtain⟨b',off',eA,_,hcr⟩:=(hx.below hbw).cells J;injection eA with eA
     injection eA with JB JC
     subst JB JC;have hcy:=hcr (j - 1) J;clear hcr;have hy:=getD_lt (l:=j4.limbs 1000000000 v) (j4.K7 J v) J (j - 1);have HR:=Lib.hid (Ll (v:=v) hj0 (by rw[HL.out];exact hj));generalize (j4.limbs 1000000000 v).getD (j - 1) 0=y at hcy hy HR;have hi1:(0:Int)≤(j:Int) - 1:=J;have hi2:(j:Int) - 1 < n:=J;have hi3:((j:Int) - 1).toNat=j - 1:=J
     go_wp2_with fail
     refine (sH (y:Int) _ (ht.below hbw) J J).mono ?_;rintro e w4 ⟨rfl,hb4⟩;have qA:Below (w.heap.size+1) W1 w4:=hbr.trans (hb4.mono xK);have hB4:=zN hBr hb4;have HI2:Hid (Lib.itoa (y:Int)=Lib.decDigits y):=j4.lh;have hdl:=j4.ny (k:=9) (u:=y) J J;rw[HI2.out];obtain⟨Y,hY⟩:∃Y:ByteArray,Y=⟨(Lib.decDigits y).toArray⟩:=⟨_,rfl⟩;rw[←hY];have qN:Hid (Y.data.toList=Lib.decDigits y):=by rw[hY];exact (rfl:(Lib.decDigits y).toArray.toList=_)
     have JD:Y.size≤9:=by rw[Lib.size_eq,qN.out];exact hdl
     have JE:Hid (Y.size=(Lib.decDigits y).length):=by show _=_;rw[Lib.size_eq,qN.out]
     clear hY hdl;have Jb:(Lib.byteCells (dB false++Lib.decDigits (j4.u7 1000000000 ((j4.limbs 1000000000 v).drop j)))).length≤1000000000000:=by
      rw[Lib.byteCells_length];exact LD false HL.out hn j
     go_wp2_with fail
     refine (rQ (w.heap.size+1) (w.heap.size+1) _ _ _ hB4 (by have:=Ap Y.size;omega) (by have:=qA.size;rw[dU]at this;exact this)).mono ?_
     rintro e w5 ⟨rfl,JF,hb5⟩;have a9W:=Jb
     go_wp2_with fail
     refine (rQ (w.heap.size+1) (w.heap.size+1) _ _ _ (.inr JF) (by rw[List.length_append,Lib.strCells_length];have:=Ap Y.size;omega) (by have:=(qA.trans hb5).size;rw[dU]at this;exact this)).mono ?_
     rintro e w6 ⟨rfl,JG,hb6⟩;have JH:Lib.IsBuilder 300 5 (w.heap.size+1) (w.heap.size+1) (Lib.byteCells (dB false++Lib.decDigits (j4.u7 1000000000 ((j4.limbs 1000000000 v).drop (j - 1))))) w6:=by
      rw[HR.out,←List.append_assoc,←List.append_assoc,Lib.byteCells_append,Lib.byteCells_append];have:=JG;rw[Lib.strCells_eq,Lib.strCells_eq,MM _ JD,JE.out,qN.out]at this;exact .inr this
     have Jc:=(qA.trans hb5).trans hb6;go_wp2
     go_roundw
     case rel=>exact⟨j - 1,J,by go_num,JH,Jc⟩
     case measure=>simp only[intOf];omega
    ·have hjz:j=0:=J;subst hjz
     go_wp2_with fail
     refine (Tryz.Builder_String_any (w.heap.size+1) (w.heap.size+1) _ _ hBr xK).mono ?_;rintro e w7 ⟨rfl,U6⟩;go_wp2;go_ret;refine⟨?_,qz.trans ((hbr.trans U6).mono J)⟩;rw[HS.out,j4.G7 J];rfl
  ·have HS:=Lib.hid (Vf.out true)
   go_enter func257,ntmps257
   go_wp2_with fail
   obtain⟨W1,hW1⟩:∃W1,W1=w.alloc (.cells #[.bool true,.slice (some ⟨b,off,none⟩) n c] 279):=⟨_,rfl⟩;have dU:W1.heap.size=w.heap.size+1:=by rw[hW1];simp
   have qz:Below w.heap.size w W1:=by rw[hW1];exact (Below.refl _ _).alloc (Nat.le_refl _) _
   rw[←hW1];have hbu:=Ld W1 300 5;rw[dU]at hbu;have hbx:Below (w.heap.size+1) W1 (W1.alloc (.cells #[.pointer none,.slice none 0 0] 300)):=(Below.refl _ _).alloc (by rw[dU];exact Nat.le_refl _) _;refine (Xl (w.heap.size+1) (w.heap.size+1) _ 45 _ hbu (by simp[Lib.byteCells]) (by rw[World.size_alloc,dU];omega)).mono ?_;rintro e w9 ⟨rfl,hB9,CF⟩;have Cg:=hbx.trans CF;have Ug:Below w.heap.size w w9:=qz.trans (Cg.mono J);have a9X:w.heap.size+1≤w9.heap.size:=by have:=Cg.size;rw[dU]at this;exact this
   obtain⟨s0,s1⟩:=vO hW1 Cg;have b4x:=(Ug.cell (p:=⟨b,off+(n - 1),none⟩) hbl).trans hct
   go_wp2_with fail
   refine (sH (u:Int) _ (ht.below Ug) J J).mono ?_;rintro e w2 ⟨rfl,hb2⟩;have xI:Below (w.heap.size+1) W1 w2:=Cg.trans (hb2.mono a9X);have hB2:Lib.IsBuilder 300 5 (w.heap.size+1) (w.heap.size+1) (Lib.byteCells (dB true)) w2:=zN (.inr hB9) hb2;have HI:Hid (Lib.itoa (u:Int)=Lib.decDigits u):=j4.lh;have hdl:=j4.ny (k:=9) (u:=u) J J;rw[HI.out];obtain⟨S,hS⟩:∃S:ByteArray,S=⟨(Lib.decDigits u).toArray⟩:=⟨_,rfl⟩;rw[←hS];have yB:Hid (S.data.toList=Lib.decDigits u):=by rw[hS];exact (rfl:(Lib.decDigits u).toArray.toList=_)
   have hS9:S.size≤9:=by rw[Lib.size_eq,yB.out];exact hdl
   clear hS hdl
   go_wp2_with fail
   refine (rQ (w.heap.size+1) (w.heap.size+1) _ S _ hB2 (by rw[Lib.byteCells_length];have:=Eh true;omega) (by have:=xI.size;rw[dU]at this;exact this)).mono ?_
   rintro e w3 ⟨rfl,hB3,hb3⟩;have xJ:Below (w.heap.size+1) W1 w3:=xI.trans hb3;have Ja:Lib.IsBuilder 300 5 (w.heap.size+1) (w.heap.size+1) (Lib.byteCells (dB true++Lib.decDigits (j4.u7 1000000000 ((j4.limbs 1000000000 v).drop (n - 1))))) w3:=by
    rw[IZ.out,Lib.byteCells_append];have:=hB3;rw[Lib.strCells_eq,yB.out]at this;exact .inr this
   obtain⟨q0,q1⟩:=vO hW1 xJ;go_wp2
   go_loopw [4] (fun ix wr=>∃j:Nat,j < n∧ix=.int .i64 ((j:Int) - 1)∧Lib.IsBuilder 300 5 (w.heap.size+1) (w.heap.size+1) (Lib.byteCells (dB true++Lib.decDigits (j4.u7 1000000000 ((j4.limbs 1000000000 v).drop j)))) wr∧Below (w.heap.size+1) W1 wr) (fun ix _=>(intOf ix+1).toNat)
   case atStart=>exact⟨n - 1,J,by go_num,Ja,xJ⟩
   case round =>
    obtain⟨j,hj,rfl,hBr,hbr⟩:=hrel;obtain⟨p0,p1⟩:=vO hW1 hbr;have hbw:Below w.heap.size w wr:=qz.trans (hbr.mono J);have xK:w.heap.size+1≤wr.heap.size:=by have:=hbr.size;rw[dU]at this;exact this
    by_cases hj0:0 < j
    ·obtain⟨b',off',eA,_,hcr⟩:=(hx.below hbw).cells J;injection eA with eA
     injection eA with JB JC
     subst JB JC;have hcy:=hcr (j - 1) J;clear hcr;have hy:=getD_lt (l:=j4.limbs 1000000000 v) (j4.K7 J v) J (j - 1);have HR:=Lib.hid (Ll (v:=v) hj0 (by rw[HL.out];exact hj));generalize (j4.limbs 1000000000 v).getD (j - 1) 0=y at hcy hy HR;have hi1:(0:Int)≤(j:Int) - 1:=J;have hi2:(j:Int) - 1 < n:=J;have hi3:((j:Int) - 1).toNat=j - 1:=J
     go_wp2_with fail
     refine (sH (y:Int) _ (ht.below hbw) J J).mono ?_;rintro e w4 ⟨rfl,hb4⟩;have qA:Below (w.heap.size+1) W1 w4:=hbr.trans (hb4.mono xK);have hB4:=zN hBr hb4;have HI2:Hid (Lib.itoa (y:Int)=Lib.decDigits y):=j4.lh;have hdl:=j4.ny (k:=9) (u:=y) J J;rw[HI2.out];obtain⟨Y,hY⟩:∃Y:ByteArray,Y=⟨(Lib.decDigits y).toArray⟩:=⟨_,rfl⟩;rw[←hY];have qN:Hid (Y.data.toList=Lib.decDigits y):=by rw[hY];exact (rfl:(Lib.decDigits y).toArray.toList=_)
     have JD:Y.size≤9:=by rw[Lib.size_eq,qN.out];exact hdl
     have JE:Hid (Y.size=(Lib.decDigits y).length):=by show _=_;rw[Lib.size_eq,qN.out]
     clear hY hdl;have Jb:(Lib.byteCells (dB true++Lib.decDigits (j4.u7 1000000000 ((j4.limbs 1000000000 v).drop j)))).length≤1000000000000:=by
      rw[Lib.byteCells_length];exact LD true HL.out hn j
     go_wp2_with fail
     refine (rQ (w.heap.size+1) (w.heap.size+1) _ _ _ hB4 (by have:=Ap Y.size;omega) (by have:=qA.size;rw[dU]at this;exact this)).mono ?_
     rintro e w5 ⟨rfl,JF,hb5⟩;have a9W:=Jb
     go_wp2_with fail
     refine (rQ (w.heap.size+1) (w.heap.size+1) _ _ _ (.inr JF) (by rw[List.length_append,Lib.strCells_length];have:=Ap Y.size;omega) (by have:=(qA.trans hb5).size;rw[dU]at this;exact this)).mono ?_
     rintro e w6 ⟨rfl,JG,hb6⟩;have JH:Lib.IsBuilder 300 5 (w.heap.size+1) (w.heap.size+1) (Lib.byteCells (dB true++Lib.decDigits (j4.u7 1000000000 ((j4.limbs 1000000000 v).drop (j - 1))))) w6:=by
      rw[HR.out,←List.append_assoc,←List.append_assoc,Lib.byteCells_append,Lib.byteCells_append];have:=JG;rw[Lib.strCells_eq,Lib.strCells_eq,MM _ JD,JE.out,qN.out]at this;exact .inr this
     have Jc:=(qA.trans hb5).trans hb6;go_wp2
     go_roundw
     case rel=>exact⟨j - 1,J,by go_num,JH,Jc⟩
     case measure=>simp only[intOf];omega
    ·have hjz:j=0:=J;subst hjz
     go_wp2_with fail
     refine (Tryz.Builder_String_any (w.heap.size+1) (w.heap.size+1) _ _ hBr xK).mono ?_;rintro e w7 ⟨rfl,U6⟩;go_wp2;go_ret;refine⟨?_,qz.trans ((hbr.trans U6).mono J)⟩;rw[HS.out,j4.G7 J];rfl
end Go.Proofs.YtdkehabacmlegaaGreatDoor
