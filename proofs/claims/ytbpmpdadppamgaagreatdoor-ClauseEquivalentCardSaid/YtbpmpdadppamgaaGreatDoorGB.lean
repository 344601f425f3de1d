/- (*strings.Builder).WriteByte and WriteString on a builder that the call has made itself (turned from the shelf's own proofs: this translation refuses the panic of copyCheck, so the shelf's contracts cannot be laid). -/
import Derived.Test.YtbpmpdadppamgaaGreatDoorShelf
import Derived.Test.YtbpmpdadppamgaaGreatDoorGA
import Derived.Lib.AppendStr
import Derived.Lib.Builder
import Derived.Lib.UnsafeStr
import Derived.Laws.Externs
import Derived.Test.YtbpmpdadppamgaaGreatDoorProg
import Derived.WalkKit
import Derived.WalkSpells
import Derived.OwnWalk
import Derived.Deep.Draws
import Derived.WalkLawsBesides
import Derived.Lib.AtoiErrMem
import Derived.Lib.AppendIntMem
import Derived.Lib.Hide
import Derived.Maps.AppendAt
import Derived.Laws.MakeOwn
import Derived.Deep.Slices
import Derived.Lib.Strings
import Derived.OpenShut
set_option maxRecDepth 100000
set_option maxHeartbeats 4000000
namespace Go.Proofs.YtbpmpdadppamgaaGreatDoor
open Tryz
open Go.RowKit
theorem sizeBuilder:(prog.info? 299).map (·.size)=some 2:=by kernel_rfl
theorem liesBuilder:liesAt prog prog.depth 299 (2 / prog.cellsOf 299) 0 299 1=true:=by kernel_rfl
theorem infoByte:(prog.info? 5).map (fun i=>(i.zero,i.size,i.bytes))=some (some (.int .u8 0),1,1):=by kernel_rfl
theorem a02(b:Nat)(w:World)(h0:w.cell? ⟨b,0,none⟩=some (.pointer (some ⟨b,0,none⟩))) :
  Calls prog 290 #[.pointer (some ⟨b,0,none⟩)] w fun e w'=>e=.returned (.tuple #[])∧w=w':=by
 obtain⟨j,hj,_⟩:=ZaH.1 sizeBuilder
 go_enter func290,ntmps290
 go_wp2;rw[Lib.run_neq_ptr_same w _ Tryz.underlying297 hj];go_wp2
 go_end0
 exact⟨rfl,rfl⟩
theorem a0T(b:Nat)(w:World)(h0:w.cell? ⟨b,0,none⟩=some (.pointer none))(hsh:w.shape? b=some (299,2))(hfz:w.frozen? ⟨b,0,none⟩=false) :
  Calls prog 290 #[.pointer (some ⟨b,0,none⟩)] w fun e w'=>e=.returned (.tuple #[])∧w'=w.setCell ⟨b,0,none⟩ (.pointer (some ⟨b,0,none⟩)):=by
 obtain⟨j,hj,hjs⟩:=ZaH.1 sizeBuilder
 go_enter func290,ntmps290
 go_wp2;rw[Lib.run_to_unsafe w ⟨b,0,none⟩ Tryz.underlying297 Tryz.underlying311 hj (by rw[hjs];decide) hsh (Nat.zero_lt_succ 1)];simp only[Result.andThen];rw[Oper.upon_value];go_wp2;rw[run_callFunc_extern func298 (by kernel_rfl) (by kernel_rfl) (by kernel_rfl) (e:=Extern.AbiNoEscape.same) (by kernel_rfl)];rw[Lib.run_noEscape];simp only[Result.andThen];rw[Oper.upon_value];go_wp2;rw[Lib.run_from_unsafe w ⟨b,0,none⟩ Tryz.underlying311 Tryz.underlying297 hj hsh liesBuilder];simp only[Result.andThen];rw[Oper.upon_value];go_wp2
 go_end0
 exact⟨rfl,rfl⟩
theorem OX(B b:Nat)(bs:List Value)(w:World)(h:Lib.IsBuilder 299 5 B b bs w) :
  Calls prog 290 #[.pointer (some ⟨b,0,none⟩)] w fun e w'=>e=.returned (.tuple #[])∧(Lib.BuilderAt 299 5 B b (.pointer (some ⟨b,0,none⟩)) bs w'∧Below B w w'):=by
 rcases h with h | h
 ·refine (a0T b w h.cell0 h.shape h.frozen0).mono ?_;rintro e w' ⟨rfl,rfl⟩;exact⟨rfl,h.used _,(Below.refl B w).setCell (p:=⟨b,0,none⟩) h.1 _⟩
 ·refine (a02 b w h.cell0).mono ?_;rintro e w' ⟨rfl,rfl⟩;exact⟨rfl,h,Below.refl B _⟩
theorem a1a(B b:Nat)(bs:List Value)(c:Int)(w:World)(h:Lib.IsBuilder 299 5 B b bs w)(hlen:bs.length+1≤140737488355328)(hBw:B≤w.heap.size) :
  Calls prog 279 #[.pointer (some ⟨b,0,none⟩),.int .u8 c] w fun e w'=>e=.returned .nilIface∧(Lib.BuilderAt 299 5 B b (.pointer (some ⟨b,0,none⟩)) (bs++[.int .u8 c]) w'∧Below B w w'):=by
 obtain⟨i0,hi,hz0,hz1,hz2⟩:=info_parts infoByte
 go_enter func279,ntmps279
 go_wp2_with (go_at_call 290;refine (OX B b bs _ h).mono ?_)
 rintro e w1 ⟨rfl,h1,hb1⟩;obtain⟨hB,v,hbk,hown,hne⟩:=h1;have c0:w1.cell? ⟨b,0,none⟩=some (.pointer (some ⟨b,0,none⟩)):=by rw[Lib.cell_of_heap hbk];rfl
 have c1:w1.cell? ⟨b,1,none⟩=some v:=by rw[Lib.cell_of_heap hbk];rfl
 go_wp2_with (at_builtin;refine wpList_append_own _ rfl _ _ 225 rfl B 5 i0 (.int .u8 0) 1 1 Tryz.underlying225 hi hz0 hz1 hz2 rfl O _ _ _ rfl (hown.alloc _) ⟨w1.heap.size,0,none⟩ 1 1 [.int .u8 c] rfl rfl ?c1 ?c2 ?c3 ?c4 ?c5 ?_)
 case c1 =>
  intro j u hj
  match j,hj with
  |0,hj=>simp at hj;subst hj;simp[Addr.add]
 case c2=>intro u hu;simp at hu;subst hu;rfl
 case c3=>unfold maxLen;omega
 case c4=>omega
 case c5=>have:=hb1.size;simp;omega
 intro v' w2 hown' hgrow _;have hlt:b < w1.heap.size:=by
  rcases Za5 b w1.heap.size with h' | h'
  ·exact h'
  ·simp[Zax h']at hbk
 have hb2:w2.heap[b]?=some (.cells #[.pointer (some ⟨b,0,none⟩),v] 299 (0,0)):=by
  rw[hgrow.block b (by simp;omega) (fun e=>hne e.symm),Lib.alloc_old w1 _ b hlt];exact hbk
 have d0:w2.cell? ⟨b,0,none⟩=some (.pointer (some ⟨b,0,none⟩)):=by rw[Lib.cell_of_heap hb2];rfl
 have d1:w2.cell? ⟨b,1,none⟩=some v:=by rw[Lib.cell_of_heap hb2];rfl
 have f1:w2.frozen? ⟨b,1,none⟩=false:=Lib.frozen_of_heap hb2 1;obtain⟨g,cap,rfl⟩:∃g cap,v'=.slice (some ⟨g,0,none⟩) (bs.length+1) cap:=by
  rcases hown'.2 with⟨_,h0⟩ | ⟨g,cap,cur,hv,_⟩
  ·omega
  ·exact⟨g,cap,hv⟩
 go_wp2;go_ret;refine⟨rfl,?_,?_⟩
 ·exact Lib.BuilderAt.put (T:=299) (e:=5) hB hb2 (bs':=bs++[.int .u8 c]) (by simpa using hown') O
 ·exact ((hb1.alloc (by have:=hb1.size;omega) _).grown hgrow (by have:=hb1.size;simp;omega) (fun k hk=>(hown.lt k hk).1)).setCell (p:=⟨b,1,none⟩) hB _
theorem uQ(B b:Nat)(bs:List Value)(s:ByteArray)(w:World)(h:Lib.IsBuilder 299 5 B b bs w)(hlen:bs.length+s.size≤140737488355328)(hBw:B≤w.heap.size) :
  Calls prog 280 #[.pointer (some ⟨b,0,none⟩),.string s] w fun e w'=>e=.returned (.tuple #[.int .i64 s.size,.nilIface])∧(Lib.BuilderAt 299 5 B b (.pointer (some ⟨b,0,none⟩)) (bs++Lib.strCells s) w'∧Below B w w'):=by
 obtain⟨i0,hi,hz0,hz1,hz2⟩:=info_parts infoByte
 go_enter func280,ntmps280
 go_wp2_with (go_at_call 290;refine (OX B b bs _ h).mono ?_)
 rintro e w1 ⟨rfl,h1,hb1⟩;obtain⟨hB,v,hbk,hown,hne⟩:=h1;have c0:w1.cell? ⟨b,0,none⟩=some (.pointer (some ⟨b,0,none⟩)):=by rw[Lib.cell_of_heap hbk];rfl
 have c1:w1.cell? ⟨b,1,none⟩=some v:=by rw[Lib.cell_of_heap hbk];rfl
 go_wp2_with (at_builtin;refine Lib.wpList_append_own_string _ rfl _ _ 225 9 rfl B 5 i0 Tryz.underlying225 Tryz.underlying9 hi hz0 hz1 hz2 _ _ _ rfl hown s rfl ?c3 ?c4 ?c5 ?_)
 case c3=>unfold maxLen;omega
 case c4=>omega
 case c5=>have:=hb1.size;omega
 intro v' w2 hown' hgrow _;have hlt:b < w1.heap.size:=by
  rcases Za5 b w1.heap.size with h' | h'
  ·exact h'
  ·simp[Zax h']at hbk
 have hb2:w2.heap[b]?=some (.cells #[.pointer (some ⟨b,0,none⟩),v] 299 (0,0)):=by
  rw[hgrow.block b hlt (fun e=>hne e.symm)];exact hbk
 have d0:w2.cell? ⟨b,0,none⟩=some (.pointer (some ⟨b,0,none⟩)):=by rw[Lib.cell_of_heap hb2];rfl
 have d1:w2.cell? ⟨b,1,none⟩=some v:=by rw[Lib.cell_of_heap hb2];rfl
 have f1:w2.frozen? ⟨b,1,none⟩=false:=Lib.frozen_of_heap hb2 1;obtain⟨ao,n',cap,rfl⟩:∃ao n' cap,v'=.slice ao n' cap:=by
  rcases hown'.2 with⟨hv,_⟩ | ⟨g,cap,cur,hv,_⟩
  ·exact⟨_,_,_,hv⟩
  ·exact⟨_,_,_,hv⟩
 go_wp2;go_ret2;refine⟨rfl,?_,?_⟩
 ·exact Lib.BuilderAt.put (T:=299) (e:=5) hB hb2 (bs':=bs++Lib.strCells s) (by simpa[Lib.strCells_length] using hown') O
 ·exact (hb1.grown hgrow (by have:=hb1.size;omega) (fun k hk=>(hown.lt k hk).1)).setCell (p:=⟨b,1,none⟩) hB _
def D5(w:World)(g:Nat)(t:TypeId)(cs:Array Value):Prop:=w.heap[g]?=some (.cells cs t (0,0))
theorem D5.lt{w:World}{g:Nat}{t:TypeId}{cs:Array Value}(h:D5 w g t cs):g < w.heap.size:=by
 rcases Za5 g w.heap.size with hlt | hge
 ·exact hlt
 ·unfold D5 at h;rw[Zax hge]at h;cases h
theorem D5.cell{w:World}{g:Nat}{t:TypeId}{cs:Array Value}(h:D5 w g t cs)(i:Nat):w.cell? ⟨g,i,none⟩=cs[i]?:=by
 unfold D5 at h;simp[World.cell?,h]
theorem D5.frozen{w:World}{g:Nat}{t:TypeId}{cs:Array Value}(h:D5 w g t cs)(i:Nat):w.frozen? ⟨g,i,none⟩=false:=by
 unfold D5 at h;simp[World.frozen?,h]
theorem D5.keep{w w':World}{g:Nat}{t:TypeId}{cs:Array Value}(h:D5 w g t cs)(e:w'.heap[g]?=w.heap[g]?):D5 w' g t cs:=e.trans h
theorem D5.alloc{w:World}{g:Nat}{t:TypeId}{cs:Array Value}(h:D5 w g t cs)(o:Obj):D5 (w.alloc o) g t cs:=h.keep (Below.heap_alloc w o g h.lt)
theorem D5.new(w:World)(t:TypeId)(cs:Array Value):D5 (w.alloc (.cells cs t)) w.heap.size t cs:=heap_alloc_new w _
theorem D5.fD{w:World}{g:Nat}{t:TypeId}{cs:Array Value}(h:D5 w g t cs)(i:Nat)(u:Value):D5 (w.setCell ⟨g,i,none⟩ u) g t (cs.setIfInBounds i u):=by
 unfold D5 at h ⊢;simp[World.setCell,Array.getElem?_modify,h]
theorem D5.far{w:World}{g:Nat}{t:TypeId}{cs:Array Value}(h:D5 w g t cs){p:Addr}(hp:g≠p.block)(u:Value):D5 (w.setCell p u) g t cs:=h.keep (Below.heap_setCell w p u g hp)
theorem D5.below{w w':World}{g:Nat}{t:TypeId}{cs:Array Value}(h:D5 w g t cs)(hb:Below w.heap.size w w'):D5 w' g t cs:=h.keep (hb.block g h.lt)
theorem D5.two{w:World}{g:Nat}{t:TypeId}{u v:Value}(h:D5 w g t #[u,v]):w.cell? ⟨g,0,none⟩=some u∧w.cell? ⟨g,1,none⟩=some v∧w.frozen? ⟨g,0,none⟩=false∧w.frozen? ⟨g,1,none⟩=false∧g < w.heap.size :=
 ⟨h.cell 0,h.cell 1,h.frozen 0,h.frozen 1,h.lt⟩
theorem D5.drew{w:World}{g:Nat}{t:TypeId}{cs:Array Value}(h:D5 w g t cs):D5 w.drew g t cs:=h
theorem D5.nT(w:World)(o:Obj)(t:TypeId)(cs:Array Value):D5 ((w.alloc o).alloc (.cells cs t)) (w.heap.size+1) t cs:=by
 have:=D5.new (w.alloc o) t cs;simpa using this
theorem box(w:World)(o:Obj):Below w.heap.size w (w.alloc o):=(Below.refl _ _).alloc (PP _) _
theorem via{w w1:World}{o:Obj}(h:Below (w.alloc o).heap.size (w.alloc o) w1):Below w.heap.size w w1:=(box w o).trans (h.mono (box w o).size)
theorem L6{a w w1:World}(h0:Below a.heap.size a w)(h:Below w.heap.size w w1):Below a.heap.size a w1:=h0.trans (h.mono h0.size)
theorem bH{a w:World}(h0:Below a.heap.size a w)(o:Obj):Below a.heap.size a (w.alloc o):=h0.alloc h0.size o
theorem set2{a w:World}(h0:Below a.heap.size a w){g i:Nat}(hg:a.heap.size≤g)(u:Value):Below a.heap.size a (w.setCell ⟨g,i,none⟩ u):=h0.setCell (p:=⟨g,i,none⟩) hg u
theorem D5.via{w w1:World}{t:TypeId}{cs:Array Value}(h:Below (w.alloc (.cells cs t)).heap.size (w.alloc (.cells cs t)) w1):D5 w1 w.heap.size t cs:=(D5.new w t cs).below h
theorem D5.seven{w:World}{g:Nat}{t:TypeId}{c0 c1 c2 c3 c4 c5 c6:Value}(h:D5 w g t #[c0,c1,c2,c3,c4,c5,c6]) :
  w.cell? ⟨g,0,none⟩=some c0∧w.cell? ⟨g,1,none⟩=some c1∧w.cell? ⟨g,2,none⟩=some c2∧w.cell? ⟨g,3,none⟩=some c3∧w.cell? ⟨g,4,none⟩=some c4∧w.cell? ⟨g,5,none⟩=some c5∧w.cell? ⟨g,6,none⟩=some c6∧g < w.heap.size :=
 ⟨h.cell 0,h.cell 1,h.cell 2,h.cell 3,h.cell 4,h.cell 5,h.cell 6,h.lt⟩
theorem a03(l:lw):Lib.trimPrefix l [45]=j6.mag l:=by
 cases l with
 |nil=>rfl
 |cons c r =>
  by_cases h:c=45
  ·subst h;simp[Lib.trimPrefix,Lib.hasPrefix,j6.mag]
  ·have h':¬45=c:=fun e=>h e.symm
   simp[Lib.trimPrefix,Lib.hasPrefix,j6.mag,h,h']
theorem Hm(l:lw)(w:World) :
  Calls prog 276 #[.string ⟨l.toArray⟩,.string ⟨#[45]⟩] w fun e w'=>e=.returned (.string ⟨(j6.mag l).toArray⟩)∧w=w':=by
 refine (Tryz.strings_TrimPrefix ⟨l.toArray⟩ ⟨#[45]⟩ w).mono ?_;rintro e w' ⟨rfl,rfl⟩;exact⟨by rw[←a03],rfl⟩
theorem Pg{l r:lw}{c:UInt8}(h:j6.mag l=c::r)(hc:c.toNat=48):j6.O5 l=(l == [48]):=by
 have e:c=48:=UInt8.toNat_inj.1 (by simpa using hc);unfold j6.O5;rw[h,e];simp
theorem Il{l r:lw}{c:UInt8}(h:j6.mag l=c::r)(hc:c.toNat≠48):j6.O5 l=j6.Q4 (j6.mag l):=by
 have h0:l≠[48]:=by
  rintro rfl;have e:j6.mag [48]=[48]:=O;rw[e]at h;injection h with h _
  exact hc (by rw[←h];rfl)
 rw[Bool.eq_iff_iff,j6.mZ h0];exact⟨fun⟨a,_⟩=>a,fun a=>⟨a,c,r,h,hc⟩⟩
theorem byte_at{D:ByteArray}{l:lw}(h:D.data.toList=l)(k:Nat)(hk:k < D.size):∃hl:k < l.length,D[k]=l[k]:=by
 subst h;exact⟨by rw[←Zad];exact hk,rfl⟩
theorem Ho{l:lw}{k:Nat}(hk:k < l.length)(h:j6.Q4 (l.take k)=true)(h1:48≤l[k].toNat)(h2:l[k].toNat≤57):j6.Q4 (l.take (k+1))=true:=by
 rw[List.take_succ_eq_append_getElem hk];exact j6.Qm.2 ⟨h,by simp[j6.aU,h1,h2]⟩
theorem vw{l:lw}{k:Nat}(hk:k < l.length)(h:l[k].toNat < 48∨57 < l[k].toNat):j6.Q4 l=false:=by
 cases hd:j6.Q4 l with
 |false=>rfl
 |true =>
  have:=Zag.1 hd _ (Zaj hk);simp only[j6.aU,Ce,rE]at this;omega
theorem a1m{D:ByteArray}(h:D.size=0):D.toList=[]:=by
 rw[ZaO];exact q9 (by rw[←Zad];exact h)
theorem a2L{D:ByteArray}(h:¬D.size=0):¬D.toList=[]:=by
 rw[ZaO];intro e;exact h (by rw[Zad,e];rfl)
theorem lG(l:lw)(w:World)(hl:l.length≤1000000000) :
  Calls prog 273 #[.string ⟨l.toArray⟩] w fun e w'=>e=.returned (.bool (j6.O5 l))∧w=w':=by
 have iF:=j6.jA l
 go_enter func273,ntmps273
 go_wp2_with fail
 refine (Hm l _).mono ?_;rintro e w' ⟨rfl,rfl⟩;obtain⟨D,hD⟩:∃D:ByteArray,D=⟨(j6.mag l).toArray⟩:=⟨_,rfl⟩;rw[←hD];have HT:Hid (D.data.toList=j6.mag l):=by rw[hD];exact (rfl:(j6.mag l).toArray.toList=j6.mag l)
 clear hD;have hsz:D.size≤1000000000:=by rw[Zad,HT.out];omega
 clear iF;by_cases h0:D.size=0
 ·have hE1:=a1m h0;have HF:Hid (j6.O5 l=(l == [48])):=by
   have hm:j6.mag l=[]:=by rw[←HT.out];exact q9 (by rw[←Zad];exact h0)
   show _=_;unfold j6.O5;rw[hm];simp
  go_wp2;go_ret;exact⟨by rw[HF.out];rfl,rfl⟩
 ·have hE1:=a2L h0;have hE2:D.toList.isEmpty=false:=by simp[hE1]
  have hpos:0 < D.size:=J;obtain⟨hl0,e0⟩:=byte_at HT.out 0 hpos;obtain⟨c,r,hcr⟩:∃c r,j6.mag l=c::r:=by
   cases hm:j6.mag l with
   |nil=>rw[hm]at hl0;simp at hl0
   |cons c r=>exact⟨c,r,rfl⟩
  have ec:D[0]=c:=by rw[e0];simp[hcr]
  by_cases h48:D[0].toNat=48
  ·have HF:=WP (Pg hcr (by rw[←ec];exact h48));have hb:((D[0].toNat:Int) == 48)=true:=by rw[beq_iff_eq];omega
   clear h48 hcr e0 ec hl0;go_wp2;go_ret;exact⟨by rw[HF.out];rfl,rfl⟩
  ·have HF:=WP (Il hcr (by rw[←ec];exact h48));have hb:((D[0].toNat:Int) == 48)=false:=by rw[IR];omega
   clear h48 hcr e0 ec hl0;go_wp2
   go_loop [18] (fun ix=>∃k:Nat,k≤D.size∧ix=.int .i64 k∧Hid (j6.Q4 ((j6.mag l).take k)=true)) (fun ix=>D.size - (intOf ix).toNat)
   case atStart=>exact⟨0,Ci _,rfl,(rfl:j6.Q4 ((j6.mag l).take 0)=true)⟩
   case round =>
    obtain⟨k,hk,rfl,HK⟩:=hrel;by_cases hlt:k < D.size
    ·obtain⟨hkl,ek⟩:=byte_at HT.out k hlt;have EK:=WP ek;clear ek;rcases Za5 D[k].toNat 48 with h1 | h1
     ·have HR:Hid (j6.O5 l=false):=by show _=_;rw[HF.out];exact vw hkl (.inl (by rw[←EK.out];exact h1))
      go_wp2;go_ret;exact⟨by rw[HR.out];rfl,rfl⟩
     ·rcases Za5 57 D[k].toNat with h2 | h2
      ·have HR:Hid (j6.O5 l=false):=by show _=_;rw[HF.out];exact vw hkl (.inr (by rw[←EK.out];exact h2))
       go_wp2;go_ret;exact⟨by rw[HR.out];rfl,rfl⟩
      ·go_wp2
       go_round
       case rel=>exact⟨k+1,J,by go_num,Ho hkl HK.out (by rw[←EK.out];exact h1) (by rw[←EK.out];exact h2)⟩
       case measure=>simp only[intOf];omega
    ·have HR:Hid (j6.O5 l=true):=by
      show _=_;rw[HF.out];have:=HK.out
      rwa [Za2 (by rw[←HT.out,←Zad];omega)]at this
     go_wp2;go_ret;exact⟨by rw[HR.out];rfl,rfl⟩
theorem a1b(s:ByteArray)(w:World)(h:j6.Q4 s.data.toList=true)(h0:s.data.toList≠[])(h9:s.data.toList.length≤9) :
  Calls prog 277 #[.string s,.int .i64 10,.int .i64 32] w fun e w'=>e=.returned (.tuple #[.int .u64 (j6.O6 s.data.toList:Nat),.nilIface])∧Below w.heap.size w w':=by
 have hs:s.size≤9:=by rw[Zad];exact h9
 refine (Tryz.strconv_ParseUint_10_at32_ok s J _ (j6.a1G h h0 h9) w).mono ?_;rintro e w' ⟨rfl,hw⟩;refine⟨rfl,?_⟩;rcases hw with rfl | rfl
 ·exact Below.refl _ _
 ·exact Lib.bytesWorld_below _ _ _
theorem Ph(l:lw)(w:World)(h:j6.O5 l=true)(h18:l.length≤18) :
  Calls prog 274 #[.string ⟨l.toArray⟩,.int .i64 10,.int .i64 64] w fun e w'=>e=.returned (.tuple #[.int .i64 (j6.x9 l),.nilIface])∧Below w.heap.size w w':=by
 have hs:(⟨l.toArray⟩:ByteArray).size≤18:=by rw[Zad];exact h18
 refine (Tryz.strconv_ParseInt_10_at64_ok ⟨l.toArray⟩ J _ (j6.a0Z h h18) w).mono ?_;rintro e w' ⟨rfl,hw⟩;refine⟨rfl,?_⟩;rcases hw with rfl | ⟨t,rfl⟩
 ·exact Below.refl _ _
 ·exact Lib.bytesWorld_below _ _ _
def norm(l:lw):lw:=if j6.O5 l then l else [48]
theorem IX(l:lw):j6.O5 (norm l)=true:=by
 unfold norm;split
 ·assumption
 ·rfl
theorem norm_eq(l:lw):norm l=Lib.itoa (j6.x9 l):=by
 unfold norm;split
 ·exact (j6.a2H ‹_›).symm
 ·rename_i h;unfold j6.x9;rw[EQ h,j6.gW]
theorem lF(l:lw):(norm l).length≤l.length+1:=by
 unfold norm;split <;> simp
theorem IA(l:lw):j6.x9 (norm l)=j6.x9 l:=by rw[norm_eq,j6.M7]
theorem rG(l:lw)(w:World)(hl:l.length≤1000000000) :
  Calls prog 261 #[.string ⟨l.toArray⟩] w fun e w'=>e=.returned (.string ⟨(norm l).toArray⟩)∧w=w':=by
 cases hv:j6.O5 l with
 |true =>
  have HN:Hid (norm l=l):=by show _=_;unfold norm;rw[Ch hv]
  have hc:=lG l w hl;rw[hv]at hc;have HC:=WP hc;clear hc hv
  go_enter func261,ntmps261
  go_wp2_with fail
  refine HC.out.mono ?_;rintro e w' ⟨rfl,rfl⟩;go_wp2;go_ret;exact⟨by rw[HN.out];rfl,rfl⟩
 |false =>
  have HN:Hid (norm l=[48]):=by show _=_;unfold norm;rw[EQ (by rw[hv];simp)]
  have hc:=lG l w hl;rw[hv]at hc;have HC:=WP hc;clear hc hv
  go_enter func261,ntmps261
  go_wp2_with fail
  refine HC.out.mono ?_;rintro e w' ⟨rfl,rfl⟩;go_wp2;go_ret;exact⟨by rw[HN.out];rfl,rfl⟩
theorem yw(l:lw):j6.Q4 (j6.mag (norm l))=true∧j6.mag (norm l)≠[]∧j6.O6 (j6.mag (norm l))=(j6.x9 l).natAbs∧(decide ((j6.mag (norm l)).length < (norm l).length))=decide (j6.x9 l < 0):=by
 have hd:=IX l;have hv:=IA l;generalize norm l=s at *;by_cases h0:s=[48]
 ·subst h0;rw[←hv];decide
 ·obtain⟨h1,h2⟩:=(j6.mZ h0).1 hd;have hz:=(j6.Cn _ h1 h2).2;obtain⟨c,r,e,_⟩:=h2;refine⟨h1,by rw[e];simp,?_,?_⟩
  ·rw[←hv];unfold j6.x9;rw[Ch hd];split <;> omega
  ·rw[←hv];unfold j6.x9;rw[Ch hd];cases hn:j6.neg s with
   |true =>
    have:=congrArg List.length (j6.Ct hn);rw[yM]at this;rw[Ch rfl,Pi J,Pi J]
   |false =>
    rw[j6.uY hn,EQ I,WF J,WF J]
def gZ(K:Nat)(v:Int)(w:World)(e:Ending)(w':World):Prop :=
 ∃A n c,e=.returned (.agg #[.bool (decide (v < 0)),.slice A n c])∧Sl w' .u32 A n c (j6.limbs 1000000000 v.natAbs)∧n≤K∧Below w.heap.size w w'
theorem Own.Lg{w:World}{base:Nat}{E t:TypeId}{k:IntKind}{A:Option Addr}{n c g:Nat}{l:List Nat}{cs:Array Value}(h:Own w base E k A n c l)(hb:D5 w g t cs)(hne:E≠t):A≠some ⟨g,0,none⟩:=by
 rintro rfl;rcases h.own.2 with⟨hv,_⟩ | ⟨g',cap,cur,hv,_,hg,_⟩
 ·simp only[Za6]at hv;cases hv.1
 ·simp only[Za6]at hv;obtain⟨e,_⟩:=hv;injection e with e
  injection e with e1
  subst e1;unfold D5 at hb;rw[hg]at hb;injection hb with hb
  injection hb with _ ht
  exact hne ht
theorem Own.vU{w:World}{base:Nat}{E t:TypeId}{k:IntKind}{A:Option Addr}{n c g:Nat}{l:List Nat}{cs:Array Value}(h:Own w base E k A n c l)(hb:D5 w g t cs)(hne:E≠t)(i:Nat)(u:Value):Own (w.setCell ⟨g,i,none⟩ u) base E k A n c l :=
 h.keep fun g' e=>Below.heap_setCell w _ u g' (by rintro rfl;exact h.Lg hb hne e)
theorem D5.Ei{w w':World}{g:Nat}{t:TypeId}{u v:Value}(h:D5 w g t #[u,v])(e:w'.heap[g]?=w.heap[g]?) :
  w'.cell? ⟨g,0,none⟩=some u∧w'.cell? ⟨g,1,none⟩=some v∧w'.frozen? ⟨g,0,none⟩=false∧w'.frozen? ⟨g,1,none⟩=false∧Hid (D5 w' g t #[u,v])∧g < w'.heap.size:=by
 have h':=h.keep e;exact⟨h'.cell 0,h'.cell 1,h'.frozen 0,h'.frozen 1,WP h',h'.lt⟩
theorem a2e(D:ByteArray)(k:Nat):(D.extract 0 k).data.toList++(D.extract k D.size).data.toList=D.data.toList:=by
 rw[Lib.extract_data,Lib.extract_data,ZaZ,Nat.sub_zero,Za2 (l:=D.data.toList.drop k) (by rw[ut,←Zad];omega),List.take_append_drop]
def Vj:Value→Nat
 |.string s=>s.size
 |_=>0
theorem gX(l:lw)(w:World)(hl:l.length≤2500000) :
  Calls prog 255 #[.string ⟨l.toArray⟩] w (gZ (l.length+1) (j6.x9 l) w):=by
 obtain⟨hd1,hd2,hd3,hd4⟩:=yw l;have HD1:=WP hd1;have HD2:=WP hd2;have HD3:=WP hd3;have iF:(j6.mag (norm l)).length≤l.length+1:=pu (j6.jA _) (lF l);have hnl:=lF l;have HD4:=WP hd4;clear hd1 hd2 hd3 hd4
 go_enter func255,ntmps255
 go_wp2_with fail
 refine (rG l _ J).mono ?_;rintro e w' ⟨rfl,rfl⟩
 go_wp2_with fail
 refine (Hm (norm l) _).mono ?_;rintro e w' ⟨rfl,rfl⟩;obtain⟨D,hD⟩:∃D:ByteArray,D=⟨(j6.mag (norm l)).toArray⟩:=⟨_,rfl⟩;rw[←hD];have HT:Hid (D.data.toList=j6.mag (norm l)):=by rw[hD];exact (rfl:(j6.mag (norm l)).toArray.toList=_)
 clear hD;have hsz:D.size≤l.length+1:=by rw[Zad,HT.out];exact iF
 obtain⟨D0,hD0⟩:∃D0:ByteArray,D0=⟨(norm l).toArray⟩:=⟨_,rfl⟩;rw[←hD0];have hsz0:D0.size≤l.length+1:=by rw[hD0,Zad];exact hnl
 have hneg:decide (D.size < D0.size)=decide (j6.x9 l < 0):=by
  rw[hD0,Zad,Zad,HT.out];exact HD4.out
 clear hD0 HD4 hnl iF;generalize eU:decide (j6.x9 l < 0)=ng at hneg;have HNG:=WP eU;clear eU;go_wp2;have HV:Hid (j6.O6 D.data.toList=(j6.x9 l).natAbs):=by show _=_;rw[HT.out];exact HD3.out
 have HD:Hid (j6.Q4 D.data.toList=true):=by show _=_;rw[HT.out];exact HD1.out
 clear HT HD1 HD2 HD3
 go_loopw [3] (fun s3 wr=>∃(E:ByteArray) (A2:Option Addr) (k c2:Nat) (o:List Nat),s3=.string E∧E.size+k≤l.length+1∧Hid (j6.Q4 E.data.toList=true)∧Hid (D5 wr w.heap.size 278 #[.bool false,.slice none 0 0])∧Hid (D5 wr (w.heap.size+1) 278 #[.bool ng,.slice A2 k c2])∧Own wr w.heap.size 267 .u32 A2 k c2 o∧j6.Small 1000000000 o∧Hid ((j6.x9 l).natAbs=j6.y8 1000000000 o+1000000000 ^ k * j6.O6 E.data.toList)∧Below w.heap.size w wr) (fun s3 _=>Vj s3)
 case atStart =>
  refine⟨D,none,0,0,[],rfl,J,HD,?_,?_,Own.nil _ _ _ _,j6.Small.nil,(by rw[HV.out];simp[j6.y8]:(j6.x9 l).natAbs=j6.y8 1000000000 []+1000000000 ^ 0 * j6.O6 D.data.toList),?_⟩
  ·exact (D5.new w _ _).alloc _
  ·have:=D5.new (w.alloc (.cells #[.bool false,.slice none 0 0] 278)) 278 #[.bool ng,.slice none 0 0];exact WP (by simpa using this)
  ·exact ((Below.refl _ _).alloc (PP _) _).alloc I _
 case round =>
  obtain⟨E,A2,k,c2,o,rfl,hEk,HE,HB1,HB2,hown,hso,Zg,hb⟩:=hrel;have HO:=WP hown.len;have c10:=HB2.out.cell 0;have c11:=HB2.out.cell 1;simp only[List.getElem?_toArray,List.getElem?_cons_zero,List.getElem?_cons_succ]at c10 c11;have f11:=HB2.out.frozen 1;have hlt1:=HB2.out.lt;by_cases h0:0 < E.size
  ·obtain⟨m,hmax,hm1,hm2,HM3⟩:∃m:Nat,max 0 ((E.size:Int) - 9)=(m:Int)∧m < E.size∧E.size≤m+9∧Hid (m=0∨E.size=m+9) :=
    ⟨E.size - 9,J,J,J,WP J⟩
   have HC:Hid ((E.extract 0 m).data.toList++(E.extract m E.size).data.toList=E.data.toList):=a2e E m;have hE1:(E.extract m E.size).data.toList.length=E.size - m:=by
    rw[Lib.extract_data,Zal,ut,←Zad];omega
   have hE2:(E.extract 0 m).data.toList.length=m:=by
    rw[Lib.extract_data,Zal,ut,←Zad];omega
   have hE3:(E.extract 0 m).size=m:=by rw[Zad,hE2]
   have hdd:j6.Q4 (E.extract 0 m).data.toList=true∧j6.Q4 (E.extract m E.size).data.toList=true:=j6.Ia.1 (by rw[HC.out];exact HE.out);have Zh:=WP hdd;have Nh:=j6.yN _ hdd.2;rw[hE1]at Nh;have Yf:j6.O6 (E.extract m E.size).data.toList < 1000000000:=kw Nh (pu (Zar J (show E.size - m≤9 by omega)) O);have HR:Hid ((j6.x9 l).natAbs=j6.y8 1000000000 (o++[j6.O6 (E.extract m E.size).data.toList])+1000000000 ^ (k+1) * j6.O6 (E.extract 0 m).data.toList):=by
    have hlo:=HO.out;subst hlo;have h:=Zg.out;rw[←HC.out]at h;exact j6.a1k (D:=Lib.decDigits (j6.x9 l).natAbs) (by rw[j6.uR];exact h) (by
     rcases HM3.out with e | e
     ·right;exact q9 (by rw[hE2];exact e)
     ·left;rw[hE1,e,Nat.add_sub_cancel_left]) |> fun h=>by rw[j6.uR]at h;exact h
   have Zi:=WP hE1;clear hE1 hE2 hdd Nh HC;have Ni:=a1b (E.extract m E.size) wr Zh.out.2 (by intro e;have:=congrArg List.length e;rw[Zi.out]at this;simp at this;omega) (by rw[Zi.out];omega);generalize j6.O6 (E.extract m E.size).data.toList=y at Yf HR Ni;have Zj:=WP Ni;clear Ni
   go_wp2_with fail
   refine Zj.out.mono ?_;rintro e w1 ⟨rfl,hb1⟩;clear Zj;have Yg:=HB1.out.below hb1;have wP:=HB2.out.below hb1;have d10:=wP.cell 0;have d11:=wP.cell 1;simp only[List.getElem?_toArray,List.getElem?_cons_zero,List.getElem?_cons_succ]at d10 d11;have g11:=wP.frozen 1;have hlt2:=wP.lt;have hown1:=hown.below hb1;have fZ:Below w.heap.size w w1:=hb.trans (hb1.mono hb.size);have X1:=WP Yg;have X2:=WP wP;clear Yg wP HB1 HB2 c10 c11 f11 hlt1
   go_wp2_with (at_builtin;refine dD (w0:=w) rfl _ _ _ rfl 267 .u32 4 Tryz.underlying276 iQ J _ _ _ o rfl hown1 _ y J rfl J fZ ?_;intro A3 c3 w2 hown2 hb2 hblk _ _;have Z1:=WP (X1.out.keep (hblk _ X1.out.lt (hown1.Lg X1.out O)));obtain⟨_,e11,_,h11,Z2,hlt3⟩:=X2.out.Ei (hblk _ X2.out.lt (hown1.Lg X2.out O));clear hblk d10 d11 g11 hlt2)
   go_roundw
   case rel =>
    refine⟨E.extract 0 m,A3,k+1,c3,o++[y],rfl,by rw[hE3];omega,WP Zh.out.1,WP (Z1.out.far I _),?_,hown2.vU Z2.out O _ _,hso.append (j6.Small.cons Yf j6.Small.nil),HR,hb2.setCell (p:=⟨w.heap.size+1,1,none⟩) I _⟩;have:=Z2.out.fD 1 (.slice A3 (k+1) c3);exact WP (by simpa using this)
   case measure=>simp only[Vj];omega
  ·go_wp2_with fail
   refine (pR _ _ _ _ _ hown.sl J).mono ?_;rintro e w' ⟨rfl,rfl⟩;have b10:=HB1.out.cell 0;have b11:=HB1.out.cell 1;simp only[List.getElem?_toArray,List.getElem?_cons_zero,List.getElem?_cons_succ]at b10 b11;have g10:=HB1.out.frozen 0;have g11:=HB1.out.frozen 1;go_wp2;have HW:=((HB1.out.far (p:=⟨w.heap.size+1,1,none⟩) I (.slice A2 (j6.U3 o).length c2)).fD 0 (.bool ng)).fD 1 (.slice A2 (j6.U3 o).length c2);have hbW:Below w.heap.size w (((wr.setCell ⟨w.heap.size+1,1,none⟩ (.slice A2 (j6.U3 o).length c2)).setCell ⟨w.heap.size,0,none⟩ (.bool ng)).setCell ⟨w.heap.size,1,none⟩ (.slice A2 (j6.U3 o).length c2)) :=
    ((hb.setCell (p:=⟨w.heap.size+1,1,none⟩) I _).setCell (p:=⟨w.heap.size,0,none⟩) (PP _) _).setCell (p:=⟨w.heap.size,1,none⟩) (PP _) _
   have hsl:Sl (((wr.setCell ⟨w.heap.size+1,1,none⟩ (.slice A2 (j6.U3 o).length c2)).setCell ⟨w.heap.size,0,none⟩ (.bool ng)).setCell ⟨w.heap.size,1,none⟩ (.slice A2 (j6.U3 o).length c2)) .u32 A2 (j6.U3 o).length c2 (j6.limbs 1000000000 (j6.x9 l).natAbs):=by
    have h1:=(((hown.vU HB2.out O 1 (.slice A2 (j6.U3 o).length c2)).vU (HB1.out.far (p:=⟨w.heap.size+1,1,none⟩) I (.slice A2 (j6.U3 o).length c2)) O 0 (.bool ng)).vU ((HB1.out.far (p:=⟨w.heap.size+1,1,none⟩) I (.slice A2 (j6.U3 o).length c2)).fD 0 (.bool ng)) O 1 (.slice A2 (j6.U3 o).length c2)).sl.trimmed (B:=1000000000) J hso;have hv:j6.y8 1000000000 o=(j6.x9 l).natAbs:=by
     rw[Zg.out,q9 (l:=E.data.toList) (by rw[←Zad];omega),j6.QY];simp
    rwa [hv]at h1
   generalize (((wr.setCell ⟨w.heap.size+1,1,none⟩ (.slice A2 (j6.U3 o).length c2)).setCell ⟨w.heap.size,0,none⟩ (.bool ng)).setCell ⟨w.heap.size,1,none⟩ (.slice A2 (j6.U3 o).length c2))=W at *;have q0:W.cell? ⟨w.heap.size,0,none⟩=some (.bool ng):=by rw[HW.cell 0];rfl
   have q1:W.cell? ⟨w.heap.size,1,none⟩=some (.slice A2 (j6.U3 o).length c2):=by rw[HW.cell 1];rfl
   refine bodyPost_ret (v:=.agg #[.bool ng,.slice A2 (j6.U3 o).length c2]) ?_ rfl ⟨A2,_,c2,by rw[HNG.out],hsl,?_,hbW⟩
   ·simp[results,Tryz.results255,go_sem,q0,q1]
   ·have:=uP o;rw[HO.out]at this;omega
def R9(w:World):Prop:=Lib.TabIs prog w "internal/strconv.uint64pow10" .u64 Lib.pow10Tab
theorem R9.below{w w':World}(h:R9 w)(hb:Below w.heap.size w w'):R9 w':=Lib.tabBelow_of_tabIs h w' hb
theorem R9.alloc{w:World}(h:R9 w)(o:Obj):R9 (w.alloc o):=h.below ((Below.refl _ _).alloc (PP _) _)
theorem vz(n:Int)(w:World)(ht:R9 w)(h0:-9223372036854775808≤n)(h1:n≤9223372036854775807) :
  Calls prog 118 #[.int .i64 n] w fun e w'=>e=.returned (.string ⟨(Lib.itoa n).toArray⟩)∧Below w.heap.size w w':=by
 refine (Tryz.strconv_Itoa n h0 h1 w ht).mono ?_;rintro e w' ⟨rfl,k,os,rfl⟩;exact⟨rfl,Lib.below_grow _ _ (PP _) _ _⟩
abbrev str(l:lw):Value:=.string ⟨l.toArray⟩
def IY(v:Value)(w:World)(e:Ending)(w':World):Prop:=e=.returned v∧w=w'
def J7(v:Value)(w:World)(e:Ending)(w':World):Prop:=e=.returned v∧Below w.heap.size w w'
inductive Dt where
 |val (v:Value)
 |row (l:List (List Dt))
abbrev aa0:=List (List Dt)
inductive Rd (ok:Nat→Prop) (w:World):Value→Dt→Prop
 |val (v:Value):Rd ok w v (.val v)
 |nil (A:Option Addr) (c:Nat):Rd ok w (.slice A 0 c) (.row [])
 |row (b o n c k:Nat) (l:aa0) (f:Nat→Nat→Value) (hn:l.length=n) (h0:0 < n) (hc:n≤c) (hb:b < w.heap.size) (hok:ok b)
   (hk:∀i (h:i < l.length),(l[i]).length=k)
   (hf:∀i j (h:i < l.length),j < (l[i]).length→w.cell? ⟨b,o+i * k+j,none⟩=some (f i j))
   (hr:∀i j (h:i < l.length) (h':j < (l[i]).length),Rd ok w (f i j) ((l[i])[j])):Rd ok w (.slice (some ⟨b,o,none⟩) n c) (.row l)
section
variable {ok ok':Nat→Prop} {w w':World} {v:Value} {d:Dt}
theorem Rd.keep(h:Rd ok w v d)(hs:w.heap.size≤w'.heap.size)(hk:∀b,ok b→b < w.heap.size→w'.heap[b]?=w.heap[b]?):Rd ok w' v d:=by
 induction h with
 |val v=>exact .val v
 |nil A c=>exact .nil A c
 |row b o n c k l f hn h0 hc hb hok hk' hf _ ih =>
  exact .row b o n c k l f hn h0 hc (kw hb hs) hok hk' (fun i j h h'=>(World.cell?_of_block (w:=w) (hk b hok hb)).trans (hf i j h h')) ih
theorem Rd.mono(h:Rd ok w v d)(hk:∀b,ok b→b < w.heap.size→ok' b):Rd ok' w v d:=by
 induction h with
 |val v=>exact .val v
 |nil A c=>exact .nil A c
 |row b o n c k l f hn h0 hc hb hok hk' hf _ ih=>exact .row b o n c k l f hn h0 hc hb (hk b hok hb) hk' hf ih
theorem Rd.under(h:Rd ok w v d)(hb:Below w.heap.size w w'):Rd ok w' v d:=h.keep hb.size fun b _ hlt=>hb.block b hlt
theorem Rd.drew(h:Rd ok w v d):Rd ok w.drew v d:=h.keep (PP _) fun _ _ _=>rfl
theorem Rd.far{p:Addr}(h:Rd ok w v d)(hp:∀b,ok b→b≠p.block)(u:Value):Rd ok (w.setCell p u) v d :=
 h.keep (by simp[World.setCell]) fun b hok _=>Below.heap_setCell w p u b (hp b hok)
theorem Rd.Q7{u:Value}(h:Rd ok w v (.val u)):v=u:=by cases h;rfl
theorem Rd.lt(h:Rd ok w v d):Rd (fun b=>ok b∧b < w.heap.size) w v d:=h.mono fun _ h hb=>⟨h,hb⟩
theorem Rd.slice{l:aa0}(h:Rd ok w v (.row l)):∃A n c,v=.slice A n c∧l.length=n∧n≤c:=by
 cases h with
 |nil A c=>exact⟨A,0,c,rfl,rfl,Ci _⟩
 |row b o n c k l f hn h0 hc=>exact⟨_,n,c,rfl,hn,hc⟩
theorem Rd.len{A:Option Addr}{n c:Nat}{l:aa0}(h:Rd ok w (.slice A n c) (.row l)):l.length=n:=by
 cases h with
 |nil=>rfl
 |row _ _ _ _ _ _ _ hn=>exact hn
theorem Rd.cap{A:Option Addr}{n c:Nat}{l:aa0}(h:Rd ok w (.slice A n c) (.row l)):n≤c:=by
 cases h with
 |nil=>exact Ci _
 |row _ _ _ _ _ _ _ _ _ hc=>exact hc
theorem Rd.cells{A:Option Addr}{n c:Nat}{l:aa0}(h:Rd ok w (.slice A n c) (.row l))(h0:0 < n) :
  ∃b o k,A=some ⟨b,o,none⟩∧b < w.heap.size∧ok b∧(∀i (h:i < l.length),(l[i]).length=k) ∧
   ∀i j (h:i < l.length) (h':j < (l[i]).length),∃u,w.cell? ⟨b,o+i * k+j,none⟩=some u∧Rd ok w u ((l[i])[j]):=by
 cases h with
 |nil=>omega
 |row b o n c k l f hn _ hc hb hok hk hf hr=>exact⟨b,o,k,rfl,hb,hok,hk,fun i j h h'=>⟨f i j,hf i j h h',hr i j h h'⟩⟩
theorem Rd.mk{b o n c k:Nat}{l:aa0}(hn:l.length=n)(hc:n≤c)(hb:b < w.heap.size)(hok:ok b)(hk:∀i (h:i < l.length),(l[i]).length=k)
  (hf:∀i j (h:i < l.length) (h':j < (l[i]).length),∃u,w.cell? ⟨b,o+i * k+j,none⟩=some u∧Rd ok w u ((l[i])[j])):Rd ok w (.slice (some ⟨b,o,none⟩) n c) (.row l):=by
 rcases Zaa n with e | e
 ·subst e;obtain rfl:l=[]:=q9 hn;exact .nil _ _
 ·let f:Nat→Nat→Value:=fun i j=>(w.cell? ⟨b,o+i * k+j,none⟩).getD (.int .i64 0)
  refine .row b o n c k l f hn e hc hb hok hk (fun i j h h'=>?_) (fun i j h h'=>?_)
  ·obtain⟨u,h1,_⟩:=hf i j h h';simp only[f,h1,ZaP]
  ·obtain⟨u,h1,h2⟩:=hf i j h h';simp only[f,h1,ZaP];exact h2
theorem Rd.take{A:Option Addr}{n c m:Nat}{l:aa0}(h:Rd ok w (.slice A n c) (.row l))(hm:m≤n):Rd ok w (.slice A m c) (.row (l.take m)):=by
 have hl:=h.len;rcases Zaa m with e | e
 ·subst e;exact .nil _ _
 ·obtain⟨b,o,k,rfl,hb,hok,hk,hf⟩:=h.cells J;refine Rd.mk (k:=k) (by rw[Zal];omega) (by have:=h.cap;omega) hb hok (fun i hi=>?_) (fun i j hi hj=>?_)
  ·rw[List.getElem_take];exact hk i _
  ·simp only[List.getElem_take]at hj ⊢
   exact hf i j (by rw[Zal]at hi;omega) hj
end
def Dt.one:Dt→Bool
 |.val v=>v.oneCell'
 |.row _=>true
theorem Rd.one{ok:Nat→Prop}{w:World}{v:Value}{d:Dt}(h:Rd ok w v d)(hd:d.one=true):v.oneCell'=true:=by
 cases h with
 |val v=>exact hd
 |nil=>rfl
 |row=>rfl
structure ah (ok:Nat→Prop) (w:World) (base:Nat) (E:TypeId) (k:Nat) (A:Option Addr) (n c:Nat) (l:aa0):Prop where
 len:l.length=n
 own:∃xs,w.ownsRow base E k (.slice A n c) n xs∧∀i (hi:i < l.length),(l[i]).length=k∧∀j (hj:j < (l[i]).length),∃u,xs[i * k+j]?=some u∧Rd (fun b=>ok b∧A≠some ⟨b,0,none⟩) w u (l[i])[j]
section
variable {ok ok':Nat→Prop} {w w':World} {base:Nat} {E:TypeId} {k:Nat} {A:Option Addr} {n c:Nat} {l:aa0}
theorem ah.nil(ok:Nat→Prop)(w:World)(base:Nat)(E:TypeId)(k:Nat):ah ok w base E k none 0 0 []:=⟨rfl,[],World.ownsRow_nil w base E k,fun i hi=>absurd hi I⟩
theorem ah.made(ok:Nat→Prop)(w:World)(base:Nat)(E:TypeId)(k cap:Nat)(cur:Array Value)(hb:base≤w.heap.size)(hm:cap≤maxLen)(hs:cur.size=cap * k):ah ok (w.alloc (.cells cur E)) base E k (some ⟨w.heap.size,0,none⟩) 0 cap [] :=
 ⟨rfl,[],World.ownsRow_made w cur cap hb hm hs,fun i hi=>absurd hi I⟩
theorem ah.addr(h:ah ok w base E k A n c l):A=none∨∃g,A=some ⟨g,0,none⟩∧base≤g∧g < w.heap.size:=by
 obtain⟨xs,⟨_,ho⟩,_⟩:=h.own;rcases ho with⟨hv,_⟩ | ⟨g,cap,cur,hv,hbg,hg,_⟩
 ·simp only[Za6]at hv;exact .inl hv.1
 ·simp only[Za6]at hv;refine .inr ⟨g,hv.1,hbg,?_⟩;rcases Za5 g w.heap.size with hlt | hge
  ·exact hlt
  ·rw[Zax hge]at hg;cases hg
theorem ah.rd(h:ah ok w base E k A n c l):Rd (fun b=>ok b∨base≤b) w (.slice A n c) (.row l):=by
 obtain⟨xs,⟨hx,ho⟩,he⟩:=h.own;have hlen:=h.len;rcases Zaa n with h0 | h0
 ·subst h0;obtain rfl:l=[]:=q9 hlen;exact .nil _ _
 ·rcases ho with⟨_,h1⟩ | ⟨g,cap,cur,hv,hbg,hg,hnc,hcm,hcs,ht⟩
  ·omega
  ·simp only[Za6]at hv;obtain⟨rfl,_,rfl⟩:=hv;refine Rd.mk (k:=k) hlen hnc ?_ (.inr hbg) (fun i hi=>(he i hi).1) (fun i j hi hj=>?_)
   ·rcases Za5 g w.heap.size with hlt | hge
    ·exact hlt
    ·rw[Zax hge]at hg;cases hg
   ·obtain⟨u,h1,h2⟩:=(he i hi).2 j hj;refine⟨u,?_,h2.mono fun b hb _=>.inl hb.1⟩;have hj':j < k:=by rw[←(he i hi).1];exact hj
    have hlt:i * k+j < n * k:=by
     have:(i+1) * k≤n * k:=Zas k J;rw[Nat.add_mul]at this;omega
    have e:cur[i * k+j]?=some u:=by
     rw[←h1,←ht,List.getElem?_take_of_lt hlt];simp
    simp[World.cell?,hg,Nat.zero_add,e]
theorem ah.keep(h:ah ok w base E k A n c l)(hs:w.heap.size≤w'.heap.size)(hb:∀g,g < w.heap.size→(ok g∨A=some ⟨g,0,none⟩)→w'.heap[g]?=w.heap[g]?):ah ok w' base E k A n c l:=by
 obtain⟨xs,⟨hx,ho⟩,he⟩:=h.own;refine⟨h.len,xs,⟨hx,?_⟩,fun i hi=>⟨(he i hi).1,fun j hj=>?_⟩⟩
 ·rcases ho with hv | ⟨g,cap,cur,hv,hbg,hg,hr⟩
  ·exact .inl hv
  ·refine .inr ⟨g,cap,cur,hv,hbg,?_,hr⟩;simp only[Za6]at hv;rw[hb g ?_ (.inr hv.1)];exact hg;rcases Za5 g w.heap.size with hlt | hge
   ·exact hlt
   ·rw[Zax hge]at hg;cases hg
 ·obtain⟨u,h1,h2⟩:=(he i hi).2 j hj;exact⟨u,h1,h2.keep hs fun b hb' hlt=>hb b hlt (.inl hb'.1)⟩
theorem ah.mono(h:ah ok w base E k A n c l)(hk:∀b,ok b→b < w.heap.size→ok' b):ah ok' w base E k A n c l:=by
 obtain⟨xs,ho,he⟩:=h.own;exact⟨h.len,xs,ho,fun i hi=>⟨(he i hi).1,fun j hj=>by
  obtain⟨u,h1,h2⟩:=(he i hi).2 j hj;exact⟨u,h1,h2.mono fun b hb hlt=>⟨hk b hb.1 hlt,hb.2⟩⟩⟩⟩
end
section
variable {P:Program} {w:World}
theorem a3K(ok:Nat→Prop)(base:Nat)(t ty E:TypeId)(z:Value)(k bytes:Nat)(ht:P.underlying t=some (.slice E))(hinfo:(P.info? E).map (fun i=>(i.zero,i.size,i.bytes))=some (some z,k,bytes))(hz:z.cells.size=k)(hk0:0 < k)
  (A:Option Addr) (n c:Nat) (l:aa0) (hown:ah ok w base E k A n c l) (A':Option Addr) (m c':Nat) (l':aa0) (hm:l'.length=m)
  (hsrc:0 < m→∃b o,A'=some ⟨b,o,none⟩∧∀i (hi:i < l'.length),(l'[i]).length=k∧∀j (hj:j < (l'[i]).length),∃u,w.cell? ⟨b,o+i * k+j,none⟩=some u∧Rd (fun b=>ok b∧A≠some ⟨b,0,none⟩) w u (l'[i])[j]∧u.oneCell'=true)
  (hn:n+m≤maxLen) (hbytes:(n+m) * bytes≤140737488355328) (hbase:base≤w.heap.size) :
  ∃A2 c2 w2,(Builtin.append_ #[t,t] ty #[.slice A n c,.slice A' m c']).run P w=.ok (.slice A2 (n+m) c2) w2∧ah ok w2 base E k A2 (n+m) c2 (l++l') ∧
   (∀g,g < w.heap.size→A≠some ⟨g,0,none⟩→w2.heap[g]?=w.heap[g]?)∧w.heap.size≤w2.heap.size∧w2.os=w.os∧w2.tape=w.tape∧w2.output=w.output∧(A2=A∨A2=some ⟨w.heap.size,0,none⟩):=by
 obtain⟨i0,hi0,hz0,hz1,hz2⟩:=info_parts hinfo;rcases Zaa m with h0 | h0
 ·subst h0;obtain rfl:l'=[]:=q9 hm;refine⟨A,c,w,?_,by simpa using hown,fun _ _ _=>rfl,PP _,rfl,rfl,rfl,.inl rfl⟩;obtain⟨xs,⟨_,ho⟩,_⟩:=hown.own;rcases ho with⟨hv,h0⟩ | ⟨g,cap,cur,hv,_,_,hnc,_⟩
  ·simp only[Za6]at hv;obtain⟨rfl,rfl,rfl⟩:=hv;rcases A' with _ | ad <;> simp[Builtin.append_,Zac ht,sizeOf,typeInfo,hi0,Builtin.lenOf,Builtin.firstCells,loadCells,loadCellsFrom]
  ·simp only[Za6]at hv;obtain⟨rfl,_,rfl⟩:=hv;rcases A' with _ | ad <;> simp[Builtin.append_,Zac ht,sizeOf,typeInfo,hi0,Builtin.lenOf,Builtin.firstCells,hnc,storeCells,loadCells,loadCellsFrom]
 ·obtain⟨b,o,rfl,hel⟩:=hsrc h0;obtain⟨xs,ho,he⟩:=hown.own;have hdiv:∀q,q < m * k→q / k < m∧q % k < k:=fun q hq=>⟨Nat.div_lt_of_lt_mul (by rwa [ZaW]at hq),Nat.mod_lt _ hk0⟩
  have Nj:∀q,q / k * k+q % k=q:=fun q=>by rw[ZaW];exact Nat.div_add_mod q k
  let news:List Value:=(List.range (m * k)).map fun q=>(w.cell? ⟨b,o+q,none⟩).getD (.int .i64 0)
  have hnl:news.length=m * k:=by simp[news]
  have hnew:∀i (hi:i < l'.length) j (hj:j < (l'[i]).length),∃u,news[i * k+j]?=some u∧w.cell? ⟨b,o+(i * k+j),none⟩=some u∧Rd (fun b=>ok b∧A≠some ⟨b,0,none⟩) w u (l'[i])[j]∧u.oneCell'=true:=by
   intro i hi j hj;obtain⟨hk,hj2⟩:=hel i hi;obtain⟨u,h1,h2,h3⟩:=hj2 j hj;have hlt:i * k+j < m * k:=by
    have:(i+1) * k≤m * k:=Zas k J;rw[Nat.add_mul]at this;omega
   refine⟨u,?_,by rw[←Nat.add_assoc];exact h1,h2,h3⟩;simp only[news];rw[bi,List.getElem?_range hlt,Option.map_some,←Nat.add_assoc,h1,ZaP]
  have hall:∀q u,news[q]?=some u→w.cell? ⟨b,o+q,none⟩=some u∧u.oneCell'=true:=by
   intro q u hq;have hlt:q < m * k:=by rw[←hnl];exact (UV.1 hq).1
   obtain⟨h1,h2⟩:=hdiv q hlt;obtain⟨hk,_⟩:=hel (q / k) J;obtain⟨u',e1,e2,_,e3⟩:=hnew (q / k) J (q % k) J;rw[Nj]at e1 e2;rw[hq]at e1;injection e1 with e1
   subst e1;exact⟨e2,e3⟩
  have hadd:∀q,(⟨b,o,none⟩:Addr).add q=⟨b,o+q,none⟩:=fun q=>by
   unfold Addr.add;split
   ·subst q;rfl
   ·rfl
  obtain⟨v',w2,hrun,h2,h3,h4,h5⟩:=run_append_own_at (P:=P) w base t ty E i0 z k bytes ht hi0 hz0 hz1 hz2 hz hk0 _ n xs ho ⟨b,o,none⟩ m c' news hnl (fun q u hq=>by rw[hadd];exact (hall q u hq).1) (by
   intro u hu;obtain⟨q,hq⟩:=List.getElem?_of_mem hu;exact (hall q u hq).2) hn hbytes hbase
  obtain⟨A2,c2,rfl,hA2⟩:∃A2 c2,v'=.slice A2 (n+m) c2∧∃g,A2=some ⟨g,0,none⟩:=by
   rcases h2.2 with⟨_,h0⟩ | ⟨g,cap,cur,rfl,_⟩
   ·omega
   ·exact⟨_,_,rfl,g,rfl⟩
  obtain⟨g2,rfl⟩:=hA2;have Zk:∀g,A=some ⟨g,0,none⟩↔(Value.slice A n c).ownBlock=some g:=by
   intro g;rcases hown.addr with rfl | ⟨g',rfl,_⟩
   ·simp[Value.ownBlock]
   ·simp[Value.ownBlock]
  have hblk:∀g,g < w.heap.size→A≠some ⟨g,0,none⟩→w2.heap[g]?=w.heap[g]?:=fun g hg hne=>h3.block g hg fun e=>hne ((Zk g).2 e.symm)
  have Yh:(some ⟨g2,0,none⟩:Option Addr)=A∨g2=w.heap.size:=by
   rcases h5 with e | e
   ·left;exact ((Zk g2).2 (by rw[←e];rfl)).symm
   ·right;simpa[Value.ownBlock] using e
  have za:∀u d,Rd (fun b=>ok b∧A≠some ⟨b,0,none⟩) w u d→Rd (fun b=>ok b∧(some ⟨g2,0,none⟩:Option Addr)≠some ⟨b,0,none⟩) w2 u d:=by
   intro u d hr;refine (hr.lt.mono (ok':=fun b=>(ok b∧A≠some ⟨b,0,none⟩)∧b < w.heap.size) fun _ h _=>h).keep h3.size (fun b hb _=>hblk b hb.2 hb.1.2) |>.mono ?_
   intro b hb _;refine⟨hb.1.1,?_⟩;rcases Yh with e | e
   ·rw[e];exact hb.1.2
   ·intro e2;injection e2 with e2
    injection e2 with e2
    have:=hb.2;omega
  refine⟨_,c2,w2,hrun,⟨by rw[lm,hown.len,hm],xs++news,h2,fun i hi=>?_⟩,hblk,h3.size,h3.os,h3.tape,h3.output,?_⟩
  ·have hxl:xs.length=n * k:=ho.1;rw[lm]at hi;by_cases hin:i < l.length
   ·have hil:i < n:=by rw[←hown.len];exact hin
    have e:(l++l')[i]'(by rw[lm];omega)=l[i]:=List.getElem_append_left hin;simp only[e];refine⟨(he i hin).1,fun j hj=>?_⟩;obtain⟨u,h6,h7⟩:=(he i hin).2 j hj;refine⟨u,?_,za _ _ h7⟩;rw[ZaD ((UV.1 h6).1)];exact h6
   ·have hil:n≤i:=by rw[←hown.len];omega
    have Yi:i - n < l'.length:=by have:=hown.len;omega
    have e:(l++l')[i]'(by rw[lm];omega)=l'[i - n]:=by
     rw[List.getElem_append_right J];congr 1;have:=hown.len;omega
    simp only[e];refine⟨(hel _ Yi).1,fun j hj=>?_⟩;obtain⟨u,h6,_,h7,_⟩:=hnew (i - n) Yi j hj;refine⟨u,?_,za _ _ h7⟩;have ee:i * k+j=n * k+((i - n) * k+j):=by
     rw[Nat.sub_mul];have:n * k≤i * k:=Zas k hil;omega
    rw[ee,←hxl,ZaI J,Nat.add_sub_cancel_left];exact h6
  ·rcases Yh with e | e
   ·exact .inl e
   ·right;rw[e]
theorem a3L(t E:TypeId)(z:Value)(k bytes:Nat)(ht:P.underlying t=some (.slice E))(hinfo:(P.info? E).map (fun i=>(i.zero,i.size,i.bytes))=some (some z,k,bytes))
  (kl kc:IntKind) (C:Int) (n:Nat) (hC:C=(n:Int)) (hbytes:bytes * n≤281474976710656) (hn:n≤maxLen) :
  ∃CS:Array Value,CS.size=n * k∧∀w:World,(Instr.makeSlice t (.int kl 0) (.int kc C)).run P w=.ok (.slice (some ⟨w.heap.size,0,none⟩) 0 n) (w.alloc (.cells CS E)):=by
 obtain⟨i0,hi0,hz0,hz1,hz2⟩:=info_parts hinfo;subst hC;have h63':(n:Int)≤9223372036854775807:=by
  have h:=hn;simp[maxLen]at h;omega
 have hb':(i0.bytes:Int) * (n:Int)≤281474976710656:=by
  have h:((i0.bytes * n:Nat):Int)≤281474976710656:=by rw[hz2];omega
  rwa [Int.natCast_mul]at h
 have hr:=fun w:World=>run_make (P:=P) w t E i0 z ht hi0 hz0 kl kc 0 n (Int.le_refl _) J hb' h63'
 simp only[Int.toNat_zero,Int.toNat_natCast]at hr;exact⟨_,by rw[←hz1];exact size_madeCells _ _,hr⟩
theorem Rd.src{ok ok':Nat→Prop}{A A':Option Addr}{m c' k:Nat}{l':aa0}(h:Rd ok' w (.slice A' m c') (.row l'))(hok:∀b,ok' b→b < w.heap.size→ok b∧A≠some ⟨b,0,none⟩)(hk:∀x∈l',x.length=k∧∀d∈x,d.one=true) :
  0 < m→∃b o,A'=some ⟨b,o,none⟩∧∀i (hi:i < l'.length),(l'[i]).length=k∧∀j (hj:j < (l'[i]).length),∃u,w.cell? ⟨b,o+i * k+j,none⟩=some u∧Rd (fun b=>ok b∧A≠some ⟨b,0,none⟩) w u (l'[i])[j]∧u.oneCell'=true:=by
 intro h0;obtain⟨b,o,k',rfl,hb,_,hk',hf⟩:=h.cells h0;have hl:=h.len;have e:k'=k:=by rw[←hk' 0 J];exact (hk _ (Zaj _)).1
 subst e;refine⟨b,o,rfl,fun i hi=>⟨hk' i hi,fun j hj=>?_⟩⟩;obtain⟨u,h1,h2⟩:=hf i j hi hj;exact⟨u,h1,h2.mono hok,h2.one ((hk _ (Zaj _)).2 _ (Zaj _))⟩
end
structure Sy where
 pkg:lw
 name:lw
 deriving DecidableEq
end Go.Proofs.YtbpmpdadppamgaaGreatDoor
namespace Go.Proofs.YtbpmpdadppamgaaGreatDoor
open Tryz
open Go.RowKit Go.ChangeShapes Go.WideShapes Go.Deep
section
variable {H:Type} {enc:TypeId×Value→H} {P:Program} {w:World} {base:Nat} {spare:Nat→Bool} {held:Bool}
theorem a2M(s:ByteArray):Value.string s=str s.data.toList:=by unfold str;rfl
theorem a3M{a:Addr}{q:Nat}{v:Value}(h:w.cell? (a.add 0)=some v):a.add q=⟨a.block,a.off+q,none⟩:=by
 have hs:a.spot=none:=by
  unfold Addr.add at h;simp only[ZaG]at h;unfold World.cell? at h;split at h
  ·cases hsp:a.spot with
   |none=>rfl
   |some x=>simp[hsp]at h
  ·cases h
 unfold Addr.add;split
 ·subst q;obtain⟨b,o,sp⟩:=a;simp only at hs;subst hs;rfl
 ·rfl
def Reads(w:World)(cs:List Value)(ds:List Dt):Prop:=cs.length=ds.length∧∀j (hj:j < ds.length),∃u,cs[j]?=some u∧Rd (fun _=>True) w u ds[j]
theorem Qr{α:Type}(jK:α→List Dt)(Good:α→Prop)(k:Nat)(hk:0 < k)(hlen:∀a,(jK a).length=k){t e:TypeId}{fuel:Nat}{cs:List Value}{x:DataW H×List MemPlace}
  (ht:P.underlying t=some (.slice e)) (hc:P.cellsOf e=k) (h:DataW.trod enc P w base spare held fuel t cs=some x)
  (elem:∀n,fuel=n+1→∀cs' y,DataW.trod enc P w base spare held n e cs'=some y→∃a,Good a∧Reads w cs' (jK a)) :
  ∃(A:Option Addr) (n c:Nat) (l:List α),cs=[.slice A n c]∧Rd (fun _=>True) w (.slice A n c) (.row (l.map jK))∧n≤maxLen∧∀a∈l,Good a:=by
 rcases DataW.trod_slice ht h with⟨rfl,_⟩ | ⟨a,len,cap,elems,rest,n,hfu,rfl,_,hb,hl,hm,hel,hx,_,_⟩
 ·exact⟨none,0,0,[],rfl,.nil _ _,Ci _,fun s hs=>by cases hs⟩
 ·rw[hc]at hx;have he:∀i,i < len→∃y:α,Good y∧∀j (hj:j < (jK y).length),∃u,w.cell? (a.add (i * k+j))=some u∧Rd (fun _=>True) w u (jK y)[j]:=by
   intro i hi;have h1:=hx i hi;rw[ww J]at h1;obtain⟨cs',h2,h3⟩:=Option.bind_eq_some_iff.1 h1;obtain⟨y,hg,hr⟩:=elem n hfu cs' _ h3;refine⟨y,hg,fun j hj=>?_⟩;obtain⟨u,h4,h5⟩:=hr.2 j hj;obtain⟨_,hcl,hat⟩:=World.cells?_some h2;have hjk:j < k:=by rw[←hlen y];exact hj
   have:=hat j hjk;rw[Go.Deep.add_add]at this;exact⟨u,by rw[this,h4],h5⟩
  rcases Zaa len with e0 | e0
  ·subst e0;exact⟨some a,0,cap,[],rfl,.nil _ _,Ci _,fun s hs=>by cases hs⟩
  ·obtain⟨y0,_,_⟩:=he 0 e0;have hch:∃f:Nat→α,∀i,i < len→Good (f i)∧∀j (hj:j < (jK (f i)).length),∃u,w.cell? (a.add (i * k+j))=some u∧Rd (fun _=>True) w u (jK (f i))[j]:=by
    refine⟨fun i=>if h:i < len then Classical.choose (he i h) else y0,fun i hi=>?_⟩;simp only[hi,dif_pos];exact Classical.choose_spec (he i hi)
   obtain⟨f,hf⟩:=hch;obtain⟨u0,h00,_⟩:=(hf 0 e0).2 0 (by rw[hlen];exact hk);have Yj:w.cell? (a.add 0)=some u0:=by simpa using h00
   have hadd:∀q,a.add q=⟨a.block,a.off+q,none⟩:=fun q=>a3M Yj
   have ha:a=⟨a.block,a.off,none⟩:=by
    have:=hadd 0;simpa[Addr.add] using this
   refine⟨some a,len,cap,(List.range len).map f,rfl,?_,pu hl hm,?_⟩
   ·rw[ha];refine Rd.mk (k:=k) I hl (World.block_lt_of_cell? _ _ Yj |> fun h=>by simpa[hadd] using h) trivial (fun i hi=>?_) (fun i j hi hj=>?_)
    ·rw[List.getElem_map];exact hlen _
    ·have hi':i < len:=by simpa using hi
     simp only[List.getElem_map,List.getElem_range]at hj ⊢
     obtain⟨u,g0,g1⟩:=(hf i hi').2 j hj;rw[hadd]at g0;exact⟨u,by rw[←g0,Nat.add_assoc],g1⟩
   ·intro s hs;obtain⟨i,hi,rfl⟩:=Zaw.1 hs;exact (hf i (List.mem_range.1 hi)).1
end
structure Raw where
 kind:Int
 n:Int
 s:lw
 l:List Raw
namespace Raw
mutual
def enc:Raw→List Dt
 |⟨k,n,s,l⟩=>[.val (.int .i64 k),.val (.int .i64 n),.val (str s),.row (A9 l)]
def A9:List Raw→aa0
 |[]=>[]
 |o::r=>enc o::A9 r
end
mutual
def size:Raw→Nat
 |⟨_,_,_,l⟩=>eF l+1
def eF:List Raw→Nat
 |[]=>0
 |o::r=>size o+eF r
end
theorem IZ(l:List Raw):A9 l=l.map enc:=by
 induction l with
 |nil=>rfl
 |cons o r ih=>rw[A9,ih];rfl
theorem lU(o:Raw):o.enc=[.val (.int .i64 o.kind),.val (.int .i64 o.n),.val (str o.s),.row (o.l.map enc)]:=by
 cases o;rw[enc,IZ]
theorem kz(o:Raw):o.enc.length=4:=by rw[lU];rfl
theorem size_pos(o:Raw):0 < o.size:=by cases o;rw[size];omega
theorem IB{l:List Raw}{o:Raw}(h:o∈l):o.size≤eF l:=by
 induction l with
 |nil=>cases h
 |cons x r ih =>
  rw[eF];rcases Za3.1 h with rfl | h
  ·omega
  ·have:=ih h;omega
theorem nE{o x:Raw}(h:x∈o.l):x.size < o.size:=by
 obtain⟨k,n,s,l⟩:=o;rw[size];have:=IB (l:=l) h;omega
theorem ind{motive:Raw→Prop}(step:∀o,(∀x∈o.l,motive x)→motive o)(o:Raw):motive o:=by
 have:∀n (o:Raw),o.size≤n→motive o:=by
  intro n
  induction n with
  |zero=>intro o h;have:=size_pos o;omega
  |succ n ih=>intro o h;exact step o fun x hx=>ih x (by have:=nE hx;omega)
 exact this o.size o (PP _)
inductive Wf:Raw→Prop
 |mk (o:Raw) (k0:-9223372036854775808≤o.kind) (k1:o.kind≤9223372036854775807) (n0:-9223372036854775808≤o.n) (n1:o.n≤9223372036854775807) (hs:o.s.length≤9223372036854775807) (hl:o.l.length≤9223372036854775807) (h:∀x∈o.l,Wf x):Wf o
end Raw
abbrev Mt(o:Raw)(P:Value):Value:=.agg #[.int .i64 o.kind,.int .i64 o.n,str o.s,P]
section
variable {H:Type} {enc:TypeId×Value→H} {w:World} {base:Nat} {spare:Nat→Bool} {held:Bool}
theorem Ja:prog.cellsOf 55=4:=by kernel_rfl
theorem a9D:prog.cellsOf 3=1:=by kernel_rfl
theorem cellsS:prog.cellsOf 9=1:=by kernel_rfl
theorem a6C:prog.cellsOf 22=1:=by kernel_rfl
theorem a3N{s:ByteArray}(h:s.size≤maxLen):s.data.toList.length≤9223372036854775807:=by unfold maxLen at h;rw[←Zad];exact h
theorem Ra:∀(fuel:Nat) (cs:List Value) (x:DataW H×List MemPlace),DataW.trod enc prog w base spare held fuel 55 cs=some x→∃r:Raw,r.Wf∧Reads w cs r.enc:=by
 intro fuel
 induction fuel using Nat.strongRecOn with
 |_ fuel ih =>
  intro cs x h;obtain⟨xs,n,hfu,_,hlen,hxl,hf⟩:=DataW.trod_struct Tryz.underlying55 h;rw[Ja]at hlen
  match cs,hlen with
  |[c0,c1,c2,c3],_ =>
   have f0:DataW.trod enc prog w base spare held n 3 (List.take (prog.cellsOf 3) (List.drop 0 [c0,c1,c2,c3]))=xs[0]?:=hf 0 _ rfl;have f1:DataW.trod enc prog w base spare held n 3 (List.take (prog.cellsOf 3) (List.drop 1 [c0,c1,c2,c3]))=xs[1]?:=hf 1 _ rfl;have f2:DataW.trod enc prog w base spare held n 9 (List.take (prog.cellsOf 9) (List.drop 2 [c0,c1,c2,c3]))=xs[2]?:=hf 2 _ rfl;have f3:DataW.trod enc prog w base spare held n 22 (List.take (prog.cellsOf 22) (List.drop 3 [c0,c1,c2,c3]))=xs[3]?:=hf 3 _ rfl;rw[a9D]at f0 f1;rw[cellsS]at f2;rw[a6C]at f3
   match xs,hxl with
   |[y0,y1,y2,y3],_ =>
    replace f0:DataW.trod enc prog w base spare held n 3 [c0]=some y0:=f0
    replace f1:DataW.trod enc prog w base spare held n 3 [c1]=some y1:=f1
    replace f2:DataW.trod enc prog w base spare held n 9 [c2]=some y2:=f2
    replace f3:DataW.trod enc prog w base spare held n 22 [c3]=some y3:=f3
    obtain⟨k,e0,_,w0⟩:=DataW.trod_int Tryz.underlying3 f0;obtain⟨m,e1,_,w1⟩:=DataW.trod_int Tryz.underlying3 f1;obtain⟨s,e2,_,w2⟩:=DataW.trod_string Tryz.underlying9 f2;obtain⟨A,n',c',l,e3,hr,hn,hg⟩:=Qr Raw.enc Raw.Wf 4 J Raw.kz Tryz.underlying22 Ja f3 (fun n'' b9i cs' y hy=>ih n'' J cs' y hy);injection e0 with e0
    injection e1 with e1
    injection e2 with e2
    injection e3 with e3
    have b0:=bounds_i64 w0;have b1:=bounds_i64 w1;have hll:l.length=n':=by have:=hr.len;rwa [Cc]at this
    refine⟨⟨k,m,s.data.toList,l⟩,.mk _ b0.1 b0.2 b1.1 b1.2 (a3N w2) (by show l.length≤_;rw[hll];unfold maxLen at hn;exact hn) hg,by rw[Raw.kz];rfl,fun j hj=>?_⟩
    simp only[Raw.lU];rw[Raw.kz]at hj;rcases j with _ | _ | _ | _ | j
    ·exact⟨c0,rfl,by rw[e0];exact .val _⟩
    ·exact⟨c1,rfl,by rw[e1];exact .val _⟩
    ·exact⟨c2,rfl,by rw[e2,a2M];exact .val _⟩
    ·exact⟨c3,rfl,by rw[e3];exact hr⟩
    ·omega
end
end Go.Proofs.YtbpmpdadppamgaaGreatDoor
namespace Go.Proofs.YtbpmpdadppamgaaGreatDoor
open Tryz
open Go.RowKit
theorem Kq{D:ByteArray}{l:lw}(h:D.data.toList=l)(k:Nat)(hk:k < D.size):∃hl:k < l.length,D[k]=l[k]:=by
 subst h;exact⟨by rw[←Zad];exact hk,rfl⟩
def Mv(c:UInt8):Bool:=decide (97≤c.toNat) && decide (c.toNat≤122)
def WH(c:UInt8):Bool:=Mv c || decide (c.toNat=45) || (decide (48≤c.toNat) && decide (c.toNat≤57))
def jH(i:Nat)(c:UInt8):Bool:=if i=0 then Mv c else WH c
def fB(l:lw):Bool:=decide (1≤l.length) && decide (l.length≤40) && (List.range l.length).all fun i=>jH i (l.getD i 0)
def iU(l:lw):Bool:=decide (1≤l.length) && decide (l.length≤40)
def R6(s:Sy):Bool:=fB s.pkg && iU s.name
theorem CK{l:lw}{k:Nat}(hk:k < l.length)(h:jH k l[k]=false):fB l=false:=by
 unfold fB;rw[Bool.and_eq_false_iff];right;rw[Za8];intro hc;have:=Zag.1 hc k (List.mem_range.2 hk);rw[AC,ww hk]at this;simp only[ZaP]at this;rw[h]at this;cases this
theorem PO{l:lw}(h1:1≤l.length)(h2:l.length≤40)(h:∀i (hi:i < l.length),jH i l[i]=true):fB l=true:=by
 unfold fB;simp only[Ce,rE];refine⟨⟨h1,h2⟩,Zag.2 fun i hi=>?_⟩;have hi:=List.mem_range.1 hi;rw[AC,ww hi];exact h i hi
theorem pJ{i:Nat}{c:UInt8}:jH i c=true↔((97≤c.toNat∧c.toNat≤122)∨(i≠0∧(c.toNat=45∨(48≤c.toNat∧c.toNat≤57)))):=by
 unfold jH WH Mv;by_cases h:i=0 <;> simp[h]
 omega
theorem Cz{i:Nat}{c:UInt8}:jH i c=false↔¬((97≤c.toNat∧c.toNat≤122)∨(i≠0∧(c.toNat=45∨(48≤c.toNat∧c.toNat≤57)))):=by
 rw[←pJ];simp
theorem CL{l:lw}(h:l.length < 1∨40 < l.length):fB l=false:=by
 unfold fB;rcases h with h | h
 ·have:decide (1≤l.length)=false:=by simpa using h
  rw[this];rfl
 ·have:decide (l.length≤40)=false:=by simpa using h
  rw[this];simp
theorem CB{l:lw}(h:l.length < 1∨40 < l.length):iU l=false:=by
 unfold iU;rcases h with h | h
 ·have:decide (1≤l.length)=false:=by simpa using h
  rw[this];rfl
 ·have:decide (l.length≤40)=false:=by simpa using h
  rw[this];simp
theorem Qs(c:Nat):(97≤c∧c≤122)∨(c=45∧c≤45)∨(48≤c∧c≤57)∨(c < 48∧c≠45)∨(57 < c∧c < 97)∨(122 < c∧c≠45):=J
theorem a0U(l:lw)(w:World)(hl:l.length≤9223372036854775807) :
  Calls prog 244 #[str l] w (IY (.bool (fB l)) w):=by
 obtain⟨D,hD⟩:∃D:ByteArray,D=⟨l.toArray⟩:=⟨_,rfl⟩;unfold str;rw[←hD];have HT:Hid (D.data.toList=l):=by rw[hD];exact (rfl:l.toArray.toList=l)
 have dA:Hid (D.size=l.length):=by show _=_;rw[Zad,HT.out]
 have hsz:D.size≤9223372036854775807:=by rw[dA.out];exact hl
 clear hD hl;by_cases h1:D.size < 1
 ·have HR:=WP (CL (l:=l) (.inl (by rw[←dA.out];exact h1)))
  go_enter func244,ntmps244
  go_wp2;go_ret;exact⟨by rw[HR.out];rfl,rfl⟩
 ·by_cases h2:40 < D.size
  ·have HR:=WP (CL (l:=l) (.inr (by rw[←dA.out];exact h2)))
   go_enter func244,ntmps244
   go_wp2;go_ret;exact⟨by rw[HR.out];rfl,rfl⟩
  ·have hp:0 < D.size:=J;obtain⟨hl0,e0⟩:=Kq HT.out 0 hp;have E0:=WP e0;clear e0;by_cases h3:97≤D[0].toNat∧D[0].toNat≤122
   ·obtain⟨h3,h4⟩:=h3
    go_enter func244,ntmps244
    go_wp2
    go_loop [3] (fun ix=>∃k:Nat,k≤D.size∧ix=.int .i64 k∧Hid (∀i (hi:i < l.length),i < k→jH i l[i]=true)) (fun ix=>D.size - (intOf ix).toNat)
    case atStart=>exact⟨0,Ci _,rfl,WP (fun i _ h=>absurd h J)⟩
    case round =>
     obtain⟨k,hk,rfl,HK⟩:=hrel;by_cases hlt:k < D.size
     ·obtain⟨hkl,ek⟩:=Kq HT.out k hlt;have EK:=WP ek;have HU:Hid (jH k l[k]=true→∀i (hi:i < l.length),i < k+1→jH i l[i]=true):=fun hc i hi h=>by
       rcases Za5 i k with h' | h'
       ·exact HK.out i hi h'
       ·obtain rfl:i=k:=J;exact hc
      have H0:Hid (k=0→97≤D[k].toNat∧D[k].toNat≤122):=fun e=>by subst e;exact⟨h3,h4⟩
      clear ek;rcases Qs D[k].toNat with⟨g1,g2⟩ | ⟨g1,g2⟩ | ⟨g1,g2⟩ | ⟨g1,g2⟩ | ⟨g1,g2⟩ | ⟨g1,g2⟩
      ·go_wp2
       go_round
       case rel=>exact⟨k+1,J,by go_num,WP (HU.out (pJ.2 (by rw[←EK.out];omega)))⟩
       case measure=>simp only[intOf];omega
      ·have hne:((D[k].toNat:Int) != 45)=false:=by rw[bne_eq_false_iff_eq];omega
       have hk0:k≠0:=fun e=>by have:=H0.out e;omega
       go_wp2
       go_round
       case rel=>exact⟨k+1,J,by go_num,WP (HU.out (pJ.2 (by rw[←EK.out];omega)))⟩
       case measure=>simp only[intOf];omega
      ·have hk0:k≠0:=fun e=>by have:=H0.out e;omega
       go_wp2
       go_round
       case rel=>exact⟨k+1,J,by go_num,WP (HU.out (pJ.2 (by rw[←EK.out];omega)))⟩
       case measure=>simp only[intOf];omega
      all_goals
       have hne:((D[k].toNat:Int) != 45)=true:=by rw[bne_iff_ne];omega
       have HR:=WP (CK hkl (Cz.2 (by rw[←EK.out];omega)));go_wp2;go_ret;exact⟨by rw[HR.out];rfl,rfl⟩
     ·have HR:=WP (PO (l:=l) (by rw[←dA.out];omega) (by rw[←dA.out];omega) (fun i hi=>HK.out i hi (by rw[←dA.out]at hi;omega)));go_wp2;go_ret;exact⟨by rw[HR.out];rfl,rfl⟩
   ·have HR:=WP (CK hl0 (Cz.2 (by rw[←E0.out];omega)));rcases Za5 D[0].toNat 97 with h5 | h5
    ·go_enter func244,ntmps244
     go_wp2;go_ret;exact⟨by rw[HR.out];rfl,rfl⟩
    ·have h6:122 < D[0].toNat:=J
     go_enter func244,ntmps244
     go_wp2;go_ret;exact⟨by rw[HR.out];rfl,rfl⟩
theorem OY(s:Sy)(w:World)(hp:s.pkg.length≤9223372036854775807)(hn:s.name.length≤9223372036854775807) :
  Calls prog 270 #[.agg #[str s.pkg,str s.name]] w (J7 (.bool (R6 s)) w):=by
 obtain⟨l,m⟩:=s;unfold str;dsimp only at hp hn ⊢;obtain⟨D,hD⟩:∃D:ByteArray,D=⟨l.toArray⟩:=⟨_,rfl⟩;obtain⟨E,hE⟩:∃E:ByteArray,E=⟨m.toArray⟩:=⟨_,rfl⟩;rw[←hD,←hE];have HT:Hid (D.data.toList=l):=by rw[hD];exact (rfl:l.toArray.toList=l)
 have dA:Hid (D.size=l.length):=by show _=_;rw[Zad,HT.out]
 have Fx:Hid (E.size=m.length):=by show _=_;rw[Zad,hE]
 have hsz:D.size≤9223372036854775807:=by rw[dA.out];exact hp
 have hsm:E.size≤9223372036854775807:=by rw[Fx.out];exact hn
 clear hD hE hp hn;have HP:Hid (fB l=false→R6 ⟨l,m⟩=false):=fun h=>by unfold R6;rw[h];rfl
 have HM:Hid (iU m=false→R6 ⟨l,m⟩=false):=fun h=>by unfold R6;rw[h];simp
 by_cases h1:D.size < 1
 ·have HR:=WP (HP.out (CL (.inl (by rw[←dA.out];exact h1))))
  go_enter func270,ntmps270
  go_wp2;go_ret;exact⟨by rw[HR.out];rfl,(Below.refl _ _).alloc (PP _) _⟩
 by_cases h2:40 < D.size
 ·have HR:=WP (HP.out (CL (.inr (by rw[←dA.out];exact h2))))
  go_enter func270,ntmps270
  go_wp2;go_ret;exact⟨by rw[HR.out];rfl,(Below.refl _ _).alloc (PP _) _⟩
 by_cases h3:E.size < 1
 ·have HR:=WP (HM.out (CB (.inl (by rw[←Fx.out];exact h3))))
  go_enter func270,ntmps270
  go_wp2;go_ret;exact⟨by rw[HR.out];rfl,(Below.refl _ _).alloc (PP _) _⟩
 by_cases h4:40 < E.size
 ·have HR:=WP (HM.out (CB (.inr (by rw[←Fx.out];exact h4))))
  go_enter func270,ntmps270
  go_wp2;go_ret;exact⟨by rw[HR.out];rfl,(Below.refl _ _).alloc (PP _) _⟩
 have HN:Hid (iU m=true):=by show _=_;unfold iU;rw[←Fx.out];simp;omega
 go_enter func270,ntmps270
 go_wp2
 go_loop [31] (fun ix=>∃k:Nat,k≤D.size∧ix=.int .i64 k∧Hid (∀i (hi:i < l.length),i < k→jH i l[i]=true)) (fun ix=>D.size - (intOf ix).toNat)
 case atStart=>exact⟨0,Ci _,rfl,WP (fun i _ h=>absurd h J)⟩
 case round =>
  obtain⟨k,hk,rfl,HK⟩:=hrel;by_cases hlt:k < D.size
  ·obtain⟨hkl,ek⟩:=Kq HT.out k hlt;have EK:=WP ek;have HU:Hid (jH k l[k]=true→∀i (hi:i < l.length),i < k+1→jH i l[i]=true):=fun hc i hi h=>by
    rcases Za5 i k with h' | h'
    ·exact HK.out i hi h'
    ·obtain rfl:i=k:=J;exact hc
   clear ek;rcases Zaa k with hk0 | hk0
   ·subst hk0;by_cases g:97≤D[0].toNat∧D[0].toNat≤122
    ·obtain⟨g1,g2⟩:=g;go_wp2
     go_round
     case rel=>exact⟨1,J,rfl,WP (HU.out (pJ.2 (by rw[←EK.out];omega)))⟩
     case measure=>simp only[intOf];omega
    ·have HR:=WP (HP.out (CK hkl (Cz.2 (by rw[←EK.out];omega))));rcases Za5 D[0].toNat 97 with g1 | g1
     ·go_wp2;go_ret;exact⟨by rw[HR.out];rfl,(Below.refl _ _).alloc (PP _) _⟩
     ·have g2:122 < D[0].toNat:=J;have hd:decide ((D[0].toNat:Int)≤122)=false:=by simp;omega
      go_wp2;go_ret;exact⟨by rw[HR.out];rfl,(Below.refl _ _).alloc (PP _) _⟩
   ·have e0:((k:Int) == 0)=false:=by rw[IR];omega
    rcases Qs D[k].toNat with⟨g1,g2⟩ | ⟨g1,g2⟩ | ⟨g1,g2⟩ | ⟨g1,g2⟩ | ⟨g1,g2⟩ | ⟨g1,g2⟩
    ·go_wp2
     go_round
     case rel=>exact⟨k+1,J,by go_num,WP (HU.out (pJ.2 (by rw[←EK.out];omega)))⟩
     case measure=>simp only[intOf];omega
    ·have hne:((D[k].toNat:Int) != 45)=false:=by rw[bne_eq_false_iff_eq];omega
     go_wp2
     go_round
     case rel=>exact⟨k+1,J,by go_num,WP (HU.out (pJ.2 (by rw[←EK.out];omega)))⟩
     case measure=>simp only[intOf];omega
    ·have hne:((D[k].toNat:Int) != 45)=true:=by rw[bne_iff_ne];omega
     go_wp2
     go_round
     case rel=>exact⟨k+1,J,by go_num,WP (HU.out (pJ.2 (by rw[←EK.out];omega)))⟩
     case measure=>simp only[intOf];omega
    all_goals
     have hne:((D[k].toNat:Int) != 45)=true:=by rw[bne_iff_ne];omega
     have HR:=WP (HP.out (CK hkl (Cz.2 (by rw[←EK.out];omega))))
     first
      | (have hd:decide ((D[k].toNat:Int)≤122)=false:=(by simp;omega);have hd2:97≤D[k].toNat:=J;go_wp2;go_ret;exact⟨by rw[HR.out];rfl,(Below.refl _ _).alloc (PP _) _⟩)
      | (go_wp2;go_ret;exact⟨by rw[HR.out];rfl,(Below.refl _ _).alloc (PP _) _⟩)
  ·have HR:Hid (R6 ⟨l,m⟩=true):=by
    show _=_;unfold R6;rw[PO (by rw[←dA.out];omega) (by rw[←dA.out];omega) (fun i hi=>HK.out i hi (by rw[←dA.out]at hi;omega)),HN.out];rfl
   go_wp2;go_ret;exact⟨by rw[HR.out];rfl,(Below.refl _ _).alloc (PP _) _⟩
end Go.Proofs.YtbpmpdadppamgaaGreatDoor
