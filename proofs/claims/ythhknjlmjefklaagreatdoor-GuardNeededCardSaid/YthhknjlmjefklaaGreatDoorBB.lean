/- (*strings.Builder).WriteByte and WriteString on a builder that the call has made itself (turned from the shelf's own proofs: this translation refuses the panic of copyCheck, so the shelf's contracts cannot be laid). -/
import Derived.Test.YthhknjlmjefklaaGreatDoorShelf
import Derived.Test.YthhknjlmjefklaaGreatDoorBA
import Derived.Lib.AppendStr
import Derived.Lib.Builder
import Derived.Lib.UnsafeStr
import Derived.Laws.Externs
import Derived.Test.YthhknjlmjefklaaGreatDoorProg
import Derived.WalkKit
import Derived.WalkSpells
import Derived.OwnWalk
import Derived.Deep.Draws
import Derived.WalkLawsBesides
import Derived.Lib.AtoiErrMem
import Derived.Lib.AppendIntMem
import Derived.Lib.Hide
import Derived.Maps.AppendAt
import Derived.Laws.MakeOwn
import Derived.Deep.Slices
import Derived.Lib.Strings
import Derived.OpenShut
set_option maxRecDepth 100000
set_option maxHeartbeats 4000000
namespace Go.Proofs.YthhknjlmjefklaaGreatDoor
open Tryz
open Go.RowKit
theorem sizeBuilder:(prog.info? 287).map (·.size)=some 2:=by kernel_rfl
theorem liesBuilder:liesAt prog prog.depth 287 (2 / prog.cellsOf 287) 0 287 1=true:=by kernel_rfl
theorem infoByte:(prog.info? 5).map (fun i=>(i.zero,i.size,i.bytes))=some (some (.int .u8 0),1,1):=by kernel_rfl
theorem a4G(b:Nat)(w:World)(h0:w.cell? ⟨b,0,none⟩=some (.pointer (some ⟨b,0,none⟩))) :
  Calls prog 281 #[.pointer (some ⟨b,0,none⟩)] w fun e w'=>e=.returned (.tuple #[])∧w=w':=by
 obtain⟨j,hj,_⟩:=ZaG.1 sizeBuilder
 go_enter func281,ntmps281
 go_wp2;rw[Lib.run_neq_ptr_same w _ Tryz.underlying285 hj];go_wp2
 go_end0
 exact⟨rfl,rfl⟩
theorem a4z(b:Nat)(w:World)(h0:w.cell? ⟨b,0,none⟩=some (.pointer none))(hsh:w.shape? b=some (287,2))(hfz:w.frozen? ⟨b,0,none⟩=false) :
  Calls prog 281 #[.pointer (some ⟨b,0,none⟩)] w fun e w'=>e=.returned (.tuple #[])∧w'=w.setCell ⟨b,0,none⟩ (.pointer (some ⟨b,0,none⟩)):=by
 obtain⟨j,hj,hjs⟩:=ZaG.1 sizeBuilder
 go_enter func281,ntmps281
 go_wp2;rw[Lib.run_to_unsafe w ⟨b,0,none⟩ Tryz.underlying285 Tryz.underlying302 hj (by rw[hjs];decide) hsh (Nat.zero_lt_succ 1)];simp only[Result.andThen];rw[Oper.upon_value];go_wp2;rw[run_callFunc_extern func287 (by kernel_rfl) (by kernel_rfl) (by kernel_rfl) (e:=Extern.AbiNoEscape.same) (by kernel_rfl)];rw[Lib.run_noEscape];simp only[Result.andThen];rw[Oper.upon_value];go_wp2;rw[Lib.run_from_unsafe w ⟨b,0,none⟩ Tryz.underlying302 Tryz.underlying285 hj hsh liesBuilder];simp only[Result.andThen];rw[Oper.upon_value];go_wp2
 go_end0
 exact⟨rfl,rfl⟩
theorem UQ(B b:Nat)(bs:List Value)(w:World)(h:Lib.IsBuilder 287 5 B b bs w) :
  Calls prog 281 #[.pointer (some ⟨b,0,none⟩)] w fun e w'=>e=.returned (.tuple #[])∧(Lib.BuilderAt 287 5 B b (.pointer (some ⟨b,0,none⟩)) bs w'∧Below B w w'):=by
 rcases h with h | h
 ·refine (a4z b w h.cell0 h.shape h.frozen0).mono ?_;rintro e w' ⟨rfl,rfl⟩;exact⟨rfl,h.used _,(Below.refl B w).setCell (p:=⟨b,0,none⟩) h.1 _⟩
 ·refine (a4G b w h.cell0).mono ?_;rintro e w' ⟨rfl,rfl⟩;exact⟨rfl,h,Below.refl B _⟩
theorem a4O(B b:Nat)(bs:List Value)(c:Int)(w:World)(h:Lib.IsBuilder 287 5 B b bs w)(hlen:bs.length+1≤140737488355328)(hBw:B≤w.heap.size) :
  Calls prog 267 #[.pointer (some ⟨b,0,none⟩),.int .u8 c] w fun e w'=>e=.returned .nilIface∧(Lib.BuilderAt 287 5 B b (.pointer (some ⟨b,0,none⟩)) (bs++[.int .u8 c]) w'∧Below B w w'):=by
 obtain⟨i0,hi,hz0,hz1,hz2⟩:=info_parts infoByte
 go_enter func267,ntmps267
 go_wp2_with (go_at_call 281;refine (UQ B b bs _ h).mono ?_)
 rintro e w1 ⟨rfl,h1,hb1⟩;obtain⟨hB,v,hbk,hown,hne⟩:=h1;have c0:w1.cell? ⟨b,0,none⟩=some (.pointer (some ⟨b,0,none⟩)):=by rw[Lib.cell_of_heap hbk];rfl
 have c1:w1.cell? ⟨b,1,none⟩=some v:=by rw[Lib.cell_of_heap hbk];rfl
 go_wp2_with (at_builtin;refine wpList_append_own _ rfl _ _ 209 rfl B 5 i0 (.int .u8 0) 1 1 Tryz.underlying209 hi hz0 hz1 hz2 rfl O _ _ _ rfl (hown.alloc _) ⟨w1.heap.size,0,none⟩ 1 1 [.int .u8 c] rfl rfl ?c1 ?c2 ?c3 ?c4 ?c5 ?_)
 case c1 =>
  intro j u hj
  match j,hj with
  |0,hj=>simp at hj;subst hj;simp[Addr.add]
 case c2=>intro u hu;simp at hu;subst hu;rfl
 case c3=>unfold maxLen;omega
 case c4=>omega
 case c5=>have:=hb1.size;simp;omega
 intro v' w2 hown' hgrow _;have hlt:b < w1.heap.size:=by
  rcases Zai b w1.heap.size with h' | h'
  ·exact h'
  ·simp[ZaQ h']at hbk
 have hb2:w2.heap[b]?=some (.cells #[.pointer (some ⟨b,0,none⟩),v] 287 (0,0)):=by
  rw[hgrow.block b (by simp;omega) (fun e=>hne e.symm),Lib.alloc_old w1 _ b hlt];exact hbk
 have d0:w2.cell? ⟨b,0,none⟩=some (.pointer (some ⟨b,0,none⟩)):=by rw[Lib.cell_of_heap hb2];rfl
 have d1:w2.cell? ⟨b,1,none⟩=some v:=by rw[Lib.cell_of_heap hb2];rfl
 have f1:w2.frozen? ⟨b,1,none⟩=false:=Lib.frozen_of_heap hb2 1;obtain⟨g,cap,rfl⟩:∃g cap,v'=.slice (some ⟨g,0,none⟩) (bs.length+1) cap:=by
  rcases hown'.2 with⟨_,h0⟩ | ⟨g,cap,cur,hv,_⟩
  ·omega
  ·exact⟨g,cap,hv⟩
 go_wp2;go_ret;refine⟨rfl,?_,?_⟩
 ·exact Lib.BuilderAt.put (T:=287) (e:=5) hB hb2 (bs':=bs++[.int .u8 c]) (by simpa using hown') O
 ·exact ((hb1.alloc (by have:=hb1.size;omega) _).grown hgrow (by have:=hb1.size;simp;omega) (fun k hk=>(hown.lt k hk).1)).setCell (p:=⟨b,1,none⟩) hB _
theorem yJ(B b:Nat)(bs:List Value)(s:ByteArray)(w:World)(h:Lib.IsBuilder 287 5 B b bs w)(hlen:bs.length+s.size≤140737488355328)(hBw:B≤w.heap.size) :
  Calls prog 268 #[.pointer (some ⟨b,0,none⟩),.string s] w fun e w'=>e=.returned (.tuple #[.int .i64 s.size,.nilIface])∧(Lib.BuilderAt 287 5 B b (.pointer (some ⟨b,0,none⟩)) (bs++Lib.strCells s) w'∧Below B w w'):=by
 obtain⟨i0,hi,hz0,hz1,hz2⟩:=info_parts infoByte
 go_enter func268,ntmps268
 go_wp2_with (go_at_call 281;refine (UQ B b bs _ h).mono ?_)
 rintro e w1 ⟨rfl,h1,hb1⟩;obtain⟨hB,v,hbk,hown,hne⟩:=h1;have c0:w1.cell? ⟨b,0,none⟩=some (.pointer (some ⟨b,0,none⟩)):=by rw[Lib.cell_of_heap hbk];rfl
 have c1:w1.cell? ⟨b,1,none⟩=some v:=by rw[Lib.cell_of_heap hbk];rfl
 go_wp2_with (at_builtin;refine Lib.wpList_append_own_string _ rfl _ _ 209 9 rfl B 5 i0 Tryz.underlying209 Tryz.underlying9 hi hz0 hz1 hz2 _ _ _ rfl hown s rfl ?c3 ?c4 ?c5 ?_)
 case c3=>unfold maxLen;omega
 case c4=>omega
 case c5=>have:=hb1.size;omega
 intro v' w2 hown' hgrow _;have hlt:b < w1.heap.size:=by
  rcases Zai b w1.heap.size with h' | h'
  ·exact h'
  ·simp[ZaQ h']at hbk
 have hb2:w2.heap[b]?=some (.cells #[.pointer (some ⟨b,0,none⟩),v] 287 (0,0)):=by
  rw[hgrow.block b hlt (fun e=>hne e.symm)];exact hbk
 have d0:w2.cell? ⟨b,0,none⟩=some (.pointer (some ⟨b,0,none⟩)):=by rw[Lib.cell_of_heap hb2];rfl
 have d1:w2.cell? ⟨b,1,none⟩=some v:=by rw[Lib.cell_of_heap hb2];rfl
 have f1:w2.frozen? ⟨b,1,none⟩=false:=Lib.frozen_of_heap hb2 1;obtain⟨ao,n',cap,rfl⟩:∃ao n' cap,v'=.slice ao n' cap:=by
  rcases hown'.2 with⟨hv,_⟩ | ⟨g,cap,cur,hv,_⟩
  ·exact⟨_,_,_,hv⟩
  ·exact⟨_,_,_,hv⟩
 go_wp2;go_ret2;refine⟨rfl,?_,?_⟩
 ·exact Lib.BuilderAt.put (T:=287) (e:=5) hB hb2 (bs':=bs++Lib.strCells s) (by simpa[Lib.strCells_length] using hown') O
 ·exact (hb1.grown hgrow (by have:=hb1.size;omega) (fun k hk=>(hown.lt k hk).1)).setCell (p:=⟨b,1,none⟩) hB _
def F5(w:World)(g:Nat)(t:TypeId)(cs:Array Value):Prop:=w.heap[g]?=some (.cells cs t (0,0))
theorem F5.lt{w:World}{g:Nat}{t:TypeId}{cs:Array Value}(h:F5 w g t cs):g < w.heap.size:=by
 rcases Zai g w.heap.size with hlt | hge
 ·exact hlt
 ·unfold F5 at h;rw[ZaQ hge]at h;cases h
theorem F5.cell{w:World}{g:Nat}{t:TypeId}{cs:Array Value}(h:F5 w g t cs)(i:Nat):w.cell? ⟨g,i,none⟩=cs[i]?:=by
 unfold F5 at h;simp[World.cell?,h]
theorem F5.frozen{w:World}{g:Nat}{t:TypeId}{cs:Array Value}(h:F5 w g t cs)(i:Nat):w.frozen? ⟨g,i,none⟩=false:=by
 unfold F5 at h;simp[World.frozen?,h]
theorem F5.keep{w w':World}{g:Nat}{t:TypeId}{cs:Array Value}(h:F5 w g t cs)(e:w'.heap[g]?=w.heap[g]?):F5 w' g t cs:=e.trans h
theorem F5.alloc{w:World}{g:Nat}{t:TypeId}{cs:Array Value}(h:F5 w g t cs)(o:Obj):F5 (w.alloc o) g t cs:=h.keep (Below.heap_alloc w o g h.lt)
theorem F5.new(w:World)(t:TypeId)(cs:Array Value):F5 (w.alloc (.cells cs t)) w.heap.size t cs:=heap_alloc_new w _
theorem F5.jb{w:World}{g:Nat}{t:TypeId}{cs:Array Value}(h:F5 w g t cs)(i:Nat)(u:Value):F5 (w.setCell ⟨g,i,none⟩ u) g t (cs.setIfInBounds i u):=by
 unfold F5 at h ⊢;simp[World.setCell,Array.getElem?_modify,h]
theorem F5.far{w:World}{g:Nat}{t:TypeId}{cs:Array Value}(h:F5 w g t cs){p:Addr}(hp:g≠p.block)(u:Value):F5 (w.setCell p u) g t cs:=h.keep (Below.heap_setCell w p u g hp)
theorem F5.below{w w':World}{g:Nat}{t:TypeId}{cs:Array Value}(h:F5 w g t cs)(hb:Below w.heap.size w w'):F5 w' g t cs:=h.keep (hb.block g h.lt)
theorem F5.two{w:World}{g:Nat}{t:TypeId}{u v:Value}(h:F5 w g t #[u,v]):w.cell? ⟨g,0,none⟩=some u∧w.cell? ⟨g,1,none⟩=some v∧w.frozen? ⟨g,0,none⟩=false∧w.frozen? ⟨g,1,none⟩=false∧g < w.heap.size :=
 ⟨h.cell 0,h.cell 1,h.frozen 0,h.frozen 1,h.lt⟩
theorem F5.drew{w:World}{g:Nat}{t:TypeId}{cs:Array Value}(h:F5 w g t cs):F5 w.drew g t cs:=h
theorem F5.rM(w:World)(o:Obj)(t:TypeId)(cs:Array Value):F5 ((w.alloc o).alloc (.cells cs t)) (w.heap.size+1) t cs:=by
 have:=F5.new (w.alloc o) t cs;simpa using this
theorem box(w:World)(o:Obj):Below w.heap.size w (w.alloc o):=(Below.refl _ _).alloc (NE _) _
theorem via{w w1:World}{o:Obj}(h:Below (w.alloc o).heap.size (w.alloc o) w1):Below w.heap.size w w1:=(box w o).trans (h.mono (box w o).size)
theorem U3{a w w1:World}(h0:Below a.heap.size a w)(h:Below w.heap.size w w1):Below a.heap.size a w1:=h0.trans (h.mono h0.size)
theorem dH{a w:World}(h0:Below a.heap.size a w)(o:Obj):Below a.heap.size a (w.alloc o):=h0.alloc h0.size o
theorem set2{a w:World}(h0:Below a.heap.size a w){g i:Nat}(hg:a.heap.size≤g)(u:Value):Below a.heap.size a (w.setCell ⟨g,i,none⟩ u):=h0.setCell (p:=⟨g,i,none⟩) hg u
theorem F5.via{w w1:World}{t:TypeId}{cs:Array Value}(h:Below (w.alloc (.cells cs t)).heap.size (w.alloc (.cells cs t)) w1):F5 w1 w.heap.size t cs:=(F5.new w t cs).below h
theorem F5.seven{w:World}{g:Nat}{t:TypeId}{c0 c1 c2 c3 c4 c5 c6:Value}(h:F5 w g t #[c0,c1,c2,c3,c4,c5,c6]) :
  w.cell? ⟨g,0,none⟩=some c0∧w.cell? ⟨g,1,none⟩=some c1∧w.cell? ⟨g,2,none⟩=some c2∧w.cell? ⟨g,3,none⟩=some c3∧w.cell? ⟨g,4,none⟩=some c4∧w.cell? ⟨g,5,none⟩=some c5∧w.cell? ⟨g,6,none⟩=some c6∧g < w.heap.size :=
 ⟨h.cell 0,h.cell 1,h.cell 2,h.cell 3,h.cell 4,h.cell 5,h.cell 6,h.lt⟩
theorem a4H(l:aa0):Lib.trimPrefix l [45]=l9.mag l:=by
 cases l with
 |nil=>rfl
 |cons c r =>
  by_cases h:c=45
  ·subst h;simp[Lib.trimPrefix,Lib.hasPrefix,l9.mag]
  ·have h':¬45=c:=fun e=>h e.symm
   simp[Lib.trimPrefix,Lib.hasPrefix,l9.mag,h,h']
theorem ML(l:aa0)(w:World) :
  Calls prog 259 #[.string ⟨l.toArray⟩,.string ⟨#[45]⟩] w fun e w'=>e=.returned (.string ⟨(l9.mag l).toArray⟩)∧w=w':=by
 refine (Tryz.strings_TrimPrefix ⟨l.toArray⟩ ⟨#[45]⟩ w).mono ?_;rintro e w' ⟨rfl,rfl⟩;exact⟨by rw[←a4H],rfl⟩
theorem UY{l r:aa0}{c:UInt8}(h:l9.mag l=c::r)(hc:c.toNat=48):l9.U4 l=(l == [48]):=by
 have e:c=48:=UInt8.toNat_inj.1 (by simpa using hc);unfold l9.U4;rw[h,e];simp
theorem Nl{l r:aa0}{c:UInt8}(h:l9.mag l=c::r)(hc:c.toNat≠48):l9.U4 l=l9.V3 (l9.mag l):=by
 have h0:l≠[48]:=by
  rintro rfl;have e:l9.mag [48]=[48]:=O;rw[e]at h;injection h with h _
  exact hc (by rw[←h];rfl)
 rw[Bool.eq_iff_iff,l9.pz h0];exact⟨fun⟨a,_⟩=>a,fun a=>⟨a,c,r,h,hc⟩⟩
theorem byte_at{D:ByteArray}{l:aa0}(h:D.data.toList=l)(k:Nat)(hk:k < D.size):∃hl:k < l.length,D[k]=l[k]:=by
 subst h;exact⟨by rw[←Zar];exact hk,rfl⟩
theorem MM{l:aa0}{k:Nat}(hk:k < l.length)(h:l9.V3 (l.take k)=true)(h1:48≤l[k].toNat)(h2:l[k].toNat≤57):l9.V3 (l.take (k+1))=true:=by
 rw[List.take_succ_eq_append_getElem hk];exact l9.We.2 ⟨h,by simp[l9.dm,h1,h2]⟩
theorem zf{l:aa0}{k:Nat}(hk:k < l.length)(h:l[k].toNat < 48∨57 < l[k].toNat):l9.V3 l=false:=by
 cases hd:l9.V3 l with
 |false=>rfl
 |true =>
  have:=Zav.1 hd _ (Zay hk);simp only[l9.dm,AC,Za3]at this;omega
theorem a5a{D:ByteArray}(h:D.size=0):D.toList=[]:=by
 rw[Zb2];exact Za9 (by rw[←Zar];exact h)
theorem a6A{D:ByteArray}(h:¬D.size=0):¬D.toList=[]:=by
 rw[Zb2];intro e;exact h (by rw[Zar,e];rfl)
theorem qV(l:aa0)(w:World)(hl:l.length≤1000000000) :
  Calls prog 262 #[.string ⟨l.toArray⟩] w fun e w'=>e=.returned (.bool (l9.U4 l))∧w=w':=by
 have hml:=l9.lV l
 go_enter func262,ntmps262
 go_wp2_with fail
 refine (ML l _).mono ?_;rintro e w' ⟨rfl,rfl⟩;obtain⟨D,hD⟩:∃D:ByteArray,D=⟨(l9.mag l).toArray⟩:=⟨_,rfl⟩;rw[←hD];have HT:Hid (D.data.toList=l9.mag l):=by rw[hD];exact (rfl:(l9.mag l).toArray.toList=l9.mag l)
 clear hD;have hsz:D.size≤1000000000:=by rw[Zar,HT.out];omega
 clear hml;by_cases h0:D.size=0
 ·have hE1:=a5a h0;have HF:Hid (l9.U4 l=(l == [48])):=by
   have hm:l9.mag l=[]:=by rw[←HT.out];exact Za9 (by rw[←Zar];exact h0)
   show _=_;unfold l9.U4;rw[hm];simp
  go_wp2;go_ret;exact⟨by rw[HF.out];rfl,rfl⟩
 ·have hE1:=a6A h0;have hE2:D.toList.isEmpty=false:=by simp[hE1]
  have hpos:0 < D.size:=J;obtain⟨hl0,e0⟩:=byte_at HT.out 0 hpos;obtain⟨c,r,hcr⟩:∃c r,l9.mag l=c::r:=by
   cases hm:l9.mag l with
   |nil=>rw[hm]at hl0;simp at hl0
   |cons c r=>exact⟨c,r,rfl⟩
  have ec:D[0]=c:=by rw[e0];simp[hcr]
  by_cases h48:D[0].toNat=48
  ·have HF:=WP (UY hcr (by rw[←ec];exact h48));have hb:((D[0].toNat:Int) == 48)=true:=by rw[beq_iff_eq];omega
   clear h48 hcr e0 ec hl0;go_wp2;go_ret;exact⟨by rw[HF.out];rfl,rfl⟩
  ·have HF:=WP (Nl hcr (by rw[←ec];exact h48));have hb:((D[0].toNat:Int) == 48)=false:=by rw[IR];omega
   clear h48 hcr e0 ec hl0;go_wp2
   go_loop [18] (fun ix=>∃k:Nat,k≤D.size∧ix=.int .i64 k∧Hid (l9.V3 ((l9.mag l).take k)=true)) (fun ix=>D.size - (intOf ix).toNat)
   case atStart=>exact⟨0,ww _,rfl,(rfl:l9.V3 ((l9.mag l).take 0)=true)⟩
   case round =>
    obtain⟨k,hk,rfl,HK⟩:=hrel;by_cases hlt:k < D.size
    ·obtain⟨hkl,ek⟩:=byte_at HT.out k hlt;have EK:=WP ek;clear ek;rcases Zai D[k].toNat 48 with h1 | h1
     ·have HR:Hid (l9.U4 l=false):=by show _=_;rw[HF.out];exact zf hkl (.inl (by rw[←EK.out];exact h1))
      go_wp2;go_ret;exact⟨by rw[HR.out];rfl,rfl⟩
     ·rcases Zai 57 D[k].toNat with h2 | h2
      ·have HR:Hid (l9.U4 l=false):=by show _=_;rw[HF.out];exact zf hkl (.inr (by rw[←EK.out];exact h2))
       go_wp2;go_ret;exact⟨by rw[HR.out];rfl,rfl⟩
      ·go_wp2
       go_round
       case rel=>exact⟨k+1,J,by go_num,MM hkl HK.out (by rw[←EK.out];exact h1) (by rw[←EK.out];exact h2)⟩
       case measure=>simp only[intOf];omega
    ·have HR:Hid (l9.U4 l=true):=by
      show _=_;rw[HF.out];have:=HK.out
      rwa [Zae (by rw[←HT.out,←Zar];omega)]at this
     go_wp2;go_ret;exact⟨by rw[HR.out];rfl,rfl⟩
theorem a4P(s:ByteArray)(w:World)(h:l9.V3 s.data.toList=true)(h0:s.data.toList≠[])(h9:s.data.toList.length≤9) :
  Calls prog 265 #[.string s,.int .i64 10,.int .i64 32] w fun e w'=>e=.returned (.tuple #[.int .u64 (l9.U5 s.data.toList:Nat),.nilIface])∧Below w.heap.size w w':=by
 have hs:s.size≤9:=by rw[Zar];exact h9
 refine (Tryz.strconv_ParseUint_10_at32_ok s J _ (l9.a5v h h0 h9) w).mono ?_;rintro e w' ⟨rfl,hw⟩;refine⟨rfl,?_⟩;rcases hw with rfl | rfl
 ·exact Below.refl _ _
 ·exact Lib.bytesWorld_below _ _ _
theorem UZ(l:aa0)(w:World)(h:l9.U4 l=true)(h18:l.length≤18) :
  Calls prog 263 #[.string ⟨l.toArray⟩,.int .i64 10,.int .i64 64] w fun e w'=>e=.returned (.tuple #[.int .i64 (l9.D5 l),.nilIface])∧Below w.heap.size w w':=by
 have hs:(⟨l.toArray⟩:ByteArray).size≤18:=by rw[Zar];exact h18
 refine (Tryz.strconv_ParseInt_10_at64_ok ⟨l.toArray⟩ J _ (l9.a4F h h18) w).mono ?_;rintro e w' ⟨rfl,hw⟩;refine⟨rfl,?_⟩;rcases hw with rfl | ⟨t,rfl⟩
 ·exact Below.refl _ _
 ·exact Lib.bytesWorld_below _ _ _
def norm(l:aa0):aa0:=if l9.U4 l then l else [48]
theorem Ho(l:aa0):l9.U4 (norm l)=true:=by
 unfold norm;split
 ·assumption
 ·rfl
theorem norm_eq(l:aa0):norm l=Lib.itoa (l9.D5 l):=by
 unfold norm;split
 ·exact (l9.a6w ‹_›).symm
 ·rename_i h;unfold l9.D5;rw[lw h,l9.jR]
theorem pq(l:aa0):(norm l).length≤l.length+1:=by
 unfold norm;split <;> simp
theorem Nz(l:aa0):l9.D5 (norm l)=l9.D5 l:=by rw[norm_eq,l9.P9]
theorem wz(l:aa0)(w:World)(hl:l.length≤1000000000) :
  Calls prog 239 #[.string ⟨l.toArray⟩] w fun e w'=>e=.returned (.string ⟨(norm l).toArray⟩)∧w=w':=by
 cases hv:l9.U4 l with
 |true =>
  have HN:Hid (norm l=l):=by show _=_;unfold norm;rw[Za0 hv]
  have hc:=qV l w hl;rw[hv]at hc;have HC:=WP hc;clear hc hv
  go_enter func239,ntmps239
  go_wp2_with fail
  refine HC.out.mono ?_;rintro e w' ⟨rfl,rfl⟩;go_wp2;go_ret;exact⟨by rw[HN.out];rfl,rfl⟩
 |false =>
  have HN:Hid (norm l=[48]):=by show _=_;unfold norm;rw[lw (by rw[hv];simp)]
  have hc:=qV l w hl;rw[hv]at hc;have HC:=WP hc;clear hc hv
  go_enter func239,ntmps239
  go_wp2_with fail
  refine HC.out.mono ?_;rintro e w' ⟨rfl,rfl⟩;go_wp2;go_ret;exact⟨by rw[HN.out];rfl,rfl⟩
theorem zg(l:aa0):l9.V3 (l9.mag (norm l))=true∧l9.mag (norm l)≠[]∧l9.U5 (l9.mag (norm l))=(l9.D5 l).natAbs∧(decide ((l9.mag (norm l)).length < (norm l).length))=decide (l9.D5 l < 0):=by
 have hd:=Ho l;have hv:=Nz l;generalize norm l=s at *;by_cases h0:s=[48]
 ·subst h0;rw[←hv];decide
 ·obtain⟨h1,h2⟩:=(l9.pz h0).1 hd;have hz:=(l9.BK _ h1 h2).2;obtain⟨c,r,e,_⟩:=h2;refine⟨h1,by rw[e];simp,?_,?_⟩
  ·rw[←hv];unfold l9.D5;rw[Za0 hd];split <;> omega
  ·rw[←hv];unfold l9.D5;rw[Za0 hd];cases hn:l9.neg s with
   |true =>
    have:=congrArg List.length (l9.Gy hn);rw[Za1]at this;rw[Za0 rfl,UV J,UV J]
   |false =>
    rw[l9.yR hn,lw I,WF J,WF J]
def jV(K:Nat)(v:Int)(w:World)(e:Ending)(w':World):Prop :=
 ∃A n c,e=.returned (.agg #[.bool (decide (v < 0)),.slice A n c])∧Sl w' .u32 A n c (l9.limbs 1000000000 v.natAbs)∧n≤K∧Below w.heap.size w w'
theorem Own.QS{w:World}{base:Nat}{E t:TypeId}{k:IntKind}{A:Option Addr}{n c g:Nat}{l:List Nat}{cs:Array Value}(h:Own w base E k A n c l)(hb:F5 w g t cs)(hne:E≠t):A≠some ⟨g,0,none⟩:=by
 rintro rfl;rcases h.own.2 with⟨hv,_⟩ | ⟨g',cap,cur,hv,_,hg,_⟩
 ·simp only[Zap]at hv;cases hv.1
 ·simp only[Zap]at hv;obtain⟨e,_⟩:=hv;injection e with e
  injection e with e1
  subst e1;unfold F5 at hb;rw[hg]at hb;injection hb with hb
  injection hb with _ ht
  exact hne ht
theorem Own.zH{w:World}{base:Nat}{E t:TypeId}{k:IntKind}{A:Option Addr}{n c g:Nat}{l:List Nat}{cs:Array Value}(h:Own w base E k A n c l)(hb:F5 w g t cs)(hne:E≠t)(i:Nat)(u:Value):Own (w.setCell ⟨g,i,none⟩ u) base E k A n c l :=
 h.keep fun g' e=>Below.heap_setCell w _ u g' (by rintro rfl;exact h.QS hb hne e)
theorem F5.Jh{w w':World}{g:Nat}{t:TypeId}{u v:Value}(h:F5 w g t #[u,v])(e:w'.heap[g]?=w.heap[g]?) :
  w'.cell? ⟨g,0,none⟩=some u∧w'.cell? ⟨g,1,none⟩=some v∧w'.frozen? ⟨g,0,none⟩=false∧w'.frozen? ⟨g,1,none⟩=false∧Hid (F5 w' g t #[u,v])∧g < w'.heap.size:=by
 have h':=h.keep e;exact⟨h'.cell 0,h'.cell 1,h'.frozen 0,h'.frozen 1,WP h',h'.lt⟩
theorem a5V(D:ByteArray)(k:Nat):(D.extract 0 k).data.toList++(D.extract k D.size).data.toList=D.data.toList:=by
 rw[Lib.extract_data,Lib.extract_data,Zb5,Nat.sub_zero,Zae (l:=D.data.toList.drop k) (by rw[Za7,←Zar];omega),List.take_append_drop]
def strLen:Value→Nat
 |.string s=>s.size
 |_=>0
theorem parse_any(l:aa0)(w:World)(hl:l.length≤2500000) :
  Calls prog 243 #[.string ⟨l.toArray⟩] w (jV (l.length+1) (l9.D5 l) w):=by
 obtain⟨hd1,hd2,hd3,hd4⟩:=zg l;have HD1:=WP hd1;have HD2:=WP hd2;have HD3:=WP hd3;have hml:(l9.mag (norm l)).length≤l.length+1:=Za6 (l9.lV _) (pq l);have hnl:=pq l;have HD4:=WP hd4;clear hd1 hd2 hd3 hd4
 go_enter func243,ntmps243
 go_wp2_with fail
 refine (wz l _ J).mono ?_;rintro e w' ⟨rfl,rfl⟩
 go_wp2_with fail
 refine (ML (norm l) _).mono ?_;rintro e w' ⟨rfl,rfl⟩;obtain⟨D,hD⟩:∃D:ByteArray,D=⟨(l9.mag (norm l)).toArray⟩:=⟨_,rfl⟩;rw[←hD];have HT:Hid (D.data.toList=l9.mag (norm l)):=by rw[hD];exact (rfl:(l9.mag (norm l)).toArray.toList=_)
 clear hD;have hsz:D.size≤l.length+1:=by rw[Zar,HT.out];exact hml
 obtain⟨D0,hD0⟩:∃D0:ByteArray,D0=⟨(norm l).toArray⟩:=⟨_,rfl⟩;rw[←hD0];have hsz0:D0.size≤l.length+1:=by rw[hD0,Zar];exact hnl
 have hneg:decide (D.size < D0.size)=decide (l9.D5 l < 0):=by
  rw[hD0,Zar,Zar,HT.out];exact HD4.out
 clear hD0 HD4 hnl hml;generalize iI:decide (l9.D5 l < 0)=ng at hneg;have HNG:=WP iI;clear iI;go_wp2;have HV:Hid (l9.U5 D.data.toList=(l9.D5 l).natAbs):=by show _=_;rw[HT.out];exact HD3.out
 have HD:Hid (l9.V3 D.data.toList=true):=by show _=_;rw[HT.out];exact HD1.out
 clear HT HD1 HD2 HD3
 go_loopw [3] (fun s3 wr=>∃(E:ByteArray) (A2:Option Addr) (k c2:Nat) (o:List Nat),s3=.string E∧E.size+k≤l.length+1∧Hid (l9.V3 E.data.toList=true)∧Hid (F5 wr w.heap.size 269 #[.bool false,.slice none 0 0])∧Hid (F5 wr (w.heap.size+1) 269 #[.bool ng,.slice A2 k c2])∧Own wr w.heap.size 254 .u32 A2 k c2 o∧l9.Small 1000000000 o∧Hid ((l9.D5 l).natAbs=l9.D6 1000000000 o+1000000000 ^ k * l9.U5 E.data.toList)∧Below w.heap.size w wr) (fun s3 _=>strLen s3)
 case atStart =>
  refine⟨D,none,0,0,[],rfl,J,HD,?_,?_,Own.nil _ _ _ _,l9.Small.nil,(by rw[HV.out];simp[l9.D6]:(l9.D5 l).natAbs=l9.D6 1000000000 []+1000000000 ^ 0 * l9.U5 D.data.toList),?_⟩
  ·exact (F5.new w _ _).alloc _
  ·have:=F5.new (w.alloc (.cells #[.bool false,.slice none 0 0] 269)) 269 #[.bool ng,.slice none 0 0];exact WP (by simpa using this)
  ·exact ((Below.refl _ _).alloc (NE _) _).alloc I _
 case round =>
  obtain⟨E,A2,k,c2,o,rfl,hEk,HE,HB1,HB2,hown,hso,HVE,hb⟩:=hrel;have HO:=WP hown.len;have c10:=HB2.out.cell 0;have c11:=HB2.out.cell 1;simp only[List.getElem?_toArray,List.getElem?_cons_zero,List.getElem?_cons_succ]at c10 c11;have f11:=HB2.out.frozen 1;have hlt1:=HB2.out.lt;by_cases h0:0 < E.size
  ·obtain⟨m,hmax,hm1,hm2,HM3⟩:∃m:Nat,max 0 ((E.size:Int) - 9)=(m:Int)∧m < E.size∧E.size≤m+9∧Hid (m=0∨E.size=m+9) :=
    ⟨E.size - 9,J,J,J,WP J⟩
   have HC:Hid ((E.extract 0 m).data.toList++(E.extract m E.size).data.toList=E.data.toList):=a5V E m;have hE1:(E.extract m E.size).data.toList.length=E.size - m:=by
    rw[Lib.extract_data,Zaz,Za7,←Zar];omega
   have hE2:(E.extract 0 m).data.toList.length=m:=by
    rw[Lib.extract_data,Zaz,Za7,←Zar];omega
   have hE3:(E.extract 0 m).size=m:=by rw[Zar,hE2]
   have hdd:l9.V3 (E.extract 0 m).data.toList=true∧l9.V3 (E.extract m E.size).data.toList=true:=l9.MX.1 (by rw[HC.out];exact HE.out);have HDD:=WP hdd;have Tm:=l9.CZ _ hdd.2;rw[hE1]at Tm;have a2f:l9.U5 (E.extract m E.size).data.toList < 1000000000:=Zaa Tm (Za6 (ZaF J (show E.size - m≤9 by omega)) O);have HR:Hid ((l9.D5 l).natAbs=l9.D6 1000000000 (o++[l9.U5 (E.extract m E.size).data.toList])+1000000000 ^ (k+1) * l9.U5 (E.extract 0 m).data.toList):=by
    have hlo:=HO.out;subst hlo;have h:=HVE.out;rw[←HC.out]at h;exact l9.a4Y (D:=Lib.decDigits (l9.D5 l).natAbs) (by rw[l9.yK];exact h) (by
     rcases HM3.out with e | e
     ·right;exact Za9 (by rw[hE2];exact e)
     ·left;rw[hE1,e,Nat.add_sub_cancel_left]) |> fun h=>by rw[l9.yK]at h;exact h
   have HE1:=WP hE1;clear hE1 hE2 hdd Tm HC;have hpu:=a4P (E.extract m E.size) wr HDD.out.2 (by intro e;have:=congrArg List.length e;rw[HE1.out]at this;simp at this;omega) (by rw[HE1.out];omega);generalize l9.U5 (E.extract m E.size).data.toList=y at a2f HR hpu;have HPU:=WP hpu;clear hpu
   go_wp2_with fail
   refine HPU.out.mono ?_;rintro e w1 ⟨rfl,hb1⟩;clear HPU;have a2g:=HB1.out.below hb1;have Ak:=HB2.out.below hb1;have d10:=Ak.cell 0;have d11:=Ak.cell 1;simp only[List.getElem?_toArray,List.getElem?_cons_zero,List.getElem?_cons_succ]at d10 d11;have g11:=Ak.frozen 1;have hlt2:=Ak.lt;have hown1:=hown.below hb1;have jB:Below w.heap.size w w1:=hb.trans (hb1.mono hb.size);have X1:=WP a2g;have X2:=WP Ak;clear a2g Ak HB1 HB2 c10 c11 f11 hlt1
   go_wp2_with (at_builtin;refine fQ (w0:=w) rfl _ _ _ rfl 254 .u32 4 Tryz.underlying267 kS J _ _ _ o rfl hown1 _ y J rfl J jB ?_;intro A3 c3 w2 hown2 hb2 hblk _ _;have Z1:=WP (X1.out.keep (hblk _ X1.out.lt (hown1.QS X1.out O)));obtain⟨_,e11,_,h11,Z2,hlt3⟩:=X2.out.Jh (hblk _ X2.out.lt (hown1.QS X2.out O));clear hblk d10 d11 g11 hlt2)
   go_roundw
   case rel =>
    refine⟨E.extract 0 m,A3,k+1,c3,o++[y],rfl,by rw[hE3];omega,WP HDD.out.1,WP (Z1.out.far I _),?_,hown2.zH Z2.out O _ _,hso.append (l9.Small.cons a2f l9.Small.nil),HR,hb2.setCell (p:=⟨w.heap.size+1,1,none⟩) I _⟩;have:=Z2.out.jb 1 (.slice A3 (k+1) c3);exact WP (by simpa using this)
   case measure=>simp only[strLen];omega
  ·go_wp2_with fail
   refine (uk _ _ _ _ _ hown.sl J).mono ?_;rintro e w' ⟨rfl,rfl⟩;have b10:=HB1.out.cell 0;have b11:=HB1.out.cell 1;simp only[List.getElem?_toArray,List.getElem?_cons_zero,List.getElem?_cons_succ]at b10 b11;have g10:=HB1.out.frozen 0;have g11:=HB1.out.frozen 1;go_wp2;have HW:=((HB1.out.far (p:=⟨w.heap.size+1,1,none⟩) I (.slice A2 (l9.au o).length c2)).jb 0 (.bool ng)).jb 1 (.slice A2 (l9.au o).length c2);have hbW:Below w.heap.size w (((wr.setCell ⟨w.heap.size+1,1,none⟩ (.slice A2 (l9.au o).length c2)).setCell ⟨w.heap.size,0,none⟩ (.bool ng)).setCell ⟨w.heap.size,1,none⟩ (.slice A2 (l9.au o).length c2)) :=
    ((hb.setCell (p:=⟨w.heap.size+1,1,none⟩) I _).setCell (p:=⟨w.heap.size,0,none⟩) (NE _) _).setCell (p:=⟨w.heap.size,1,none⟩) (NE _) _
   have hsl:Sl (((wr.setCell ⟨w.heap.size+1,1,none⟩ (.slice A2 (l9.au o).length c2)).setCell ⟨w.heap.size,0,none⟩ (.bool ng)).setCell ⟨w.heap.size,1,none⟩ (.slice A2 (l9.au o).length c2)) .u32 A2 (l9.au o).length c2 (l9.limbs 1000000000 (l9.D5 l).natAbs):=by
    have h1:=(((hown.zH HB2.out O 1 (.slice A2 (l9.au o).length c2)).zH (HB1.out.far (p:=⟨w.heap.size+1,1,none⟩) I (.slice A2 (l9.au o).length c2)) O 0 (.bool ng)).zH ((HB1.out.far (p:=⟨w.heap.size+1,1,none⟩) I (.slice A2 (l9.au o).length c2)).jb 0 (.bool ng)) O 1 (.slice A2 (l9.au o).length c2)).sl.trimmed (B:=1000000000) J hso;have hv:l9.D6 1000000000 o=(l9.D5 l).natAbs:=by
     rw[HVE.out,Za9 (l:=E.data.toList) (by rw[←Zar];omega),l9.WX];simp
    rwa [hv]at h1
   generalize (((wr.setCell ⟨w.heap.size+1,1,none⟩ (.slice A2 (l9.au o).length c2)).setCell ⟨w.heap.size,0,none⟩ (.bool ng)).setCell ⟨w.heap.size,1,none⟩ (.slice A2 (l9.au o).length c2))=W at *;have q0:W.cell? ⟨w.heap.size,0,none⟩=some (.bool ng):=by rw[HW.cell 0];rfl
   have q1:W.cell? ⟨w.heap.size,1,none⟩=some (.slice A2 (l9.au o).length c2):=by rw[HW.cell 1];rfl
   refine bodyPost_ret (v:=.agg #[.bool ng,.slice A2 (l9.au o).length c2]) ?_ rfl ⟨A2,_,c2,by rw[HNG.out],hsl,?_,hbW⟩
   ·simp[results,Tryz.results243,go_sem,q0,q1]
   ·have:=yI o;rw[HO.out]at this;omega
def Tab(w:World):Prop:=Lib.TabIs prog w "internal/strconv.uint64pow10" .u64 Lib.pow10Tab
theorem Tab.below{w w':World}(h:Tab w)(hb:Below w.heap.size w w'):Tab w':=Lib.tabBelow_of_tabIs h w' hb
theorem Tab.alloc{w:World}(h:Tab w)(o:Obj):Tab (w.alloc o):=h.below ((Below.refl _ _).alloc (NE _) _)
theorem zh(n:Int)(w:World)(ht:Tab w)(h0:-9223372036854775808≤n)(h1:n≤9223372036854775807) :
  Calls prog 73 #[.int .i64 n] w fun e w'=>e=.returned (.string ⟨(Lib.itoa n).toArray⟩)∧Below w.heap.size w w':=by
 refine (Tryz.strconv_Itoa n h0 h1 w ht).mono ?_;rintro e w' ⟨rfl,k,os,rfl⟩;exact⟨rfl,Lib.below_grow _ _ (NE _) _ _⟩
abbrev str(l:aa0):Value:=.string ⟨l.toArray⟩
def Oa(v:Value)(w:World)(e:Ending)(w':World):Prop:=e=.returned v∧w=w'
def P6(v:Value)(w:World)(e:Ending)(w':World):Prop:=e=.returned v∧Below w.heap.size w w'
inductive Dt where
 |val (v:Value)
 |row (l:List (List Dt))
abbrev aa1:=List (List Dt)
inductive Rd (ok:Nat→Prop) (w:World):Value→Dt→Prop
 |val (v:Value):Rd ok w v (.val v)
 |nil (A:Option Addr) (c:Nat):Rd ok w (.slice A 0 c) (.row [])
 |row (b o n c k:Nat) (l:aa1) (f:Nat→Nat→Value) (hn:l.length=n) (h0:0 < n) (hc:n≤c) (hb:b < w.heap.size) (hok:ok b)
   (hk:∀i (h:i < l.length),(l[i]).length=k)
   (hf:∀i j (h:i < l.length),j < (l[i]).length→w.cell? ⟨b,o+i * k+j,none⟩=some (f i j))
   (hr:∀i j (h:i < l.length) (h':j < (l[i]).length),Rd ok w (f i j) ((l[i])[j])):Rd ok w (.slice (some ⟨b,o,none⟩) n c) (.row l)
section
variable {ok ok':Nat→Prop} {w w':World} {v:Value} {d:Dt}
theorem Rd.keep(h:Rd ok w v d)(hs:w.heap.size≤w'.heap.size)(hk:∀b,ok b→b < w.heap.size→w'.heap[b]?=w.heap[b]?):Rd ok w' v d:=by
 induction h with
 |val v=>exact .val v
 |nil A c=>exact .nil A c
 |row b o n c k l f hn h0 hc hb hok hk' hf _ ih =>
  exact .row b o n c k l f hn h0 hc (Zaa hb hs) hok hk' (fun i j h h'=>(World.cell?_of_block (w:=w) (hk b hok hb)).trans (hf i j h h')) ih
theorem Rd.mono(h:Rd ok w v d)(hk:∀b,ok b→b < w.heap.size→ok' b):Rd ok' w v d:=by
 induction h with
 |val v=>exact .val v
 |nil A c=>exact .nil A c
 |row b o n c k l f hn h0 hc hb hok hk' hf _ ih=>exact .row b o n c k l f hn h0 hc hb (hk b hok hb) hk' hf ih
theorem Rd.under(h:Rd ok w v d)(hb:Below w.heap.size w w'):Rd ok w' v d:=h.keep hb.size fun b _ hlt=>hb.block b hlt
theorem Rd.drew(h:Rd ok w v d):Rd ok w.drew v d:=h.keep (NE _) fun _ _ _=>rfl
theorem Rd.far{p:Addr}(h:Rd ok w v d)(hp:∀b,ok b→b≠p.block)(u:Value):Rd ok (w.setCell p u) v d :=
 h.keep (by simp[World.setCell]) fun b hok _=>Below.heap_setCell w p u b (hp b hok)
theorem Rd.Z9{u:Value}(h:Rd ok w v (.val u)):v=u:=by cases h;rfl
theorem Rd.lt(h:Rd ok w v d):Rd (fun b=>ok b∧b < w.heap.size) w v d:=h.mono fun _ h hb=>⟨h,hb⟩
theorem Rd.slice{l:aa1}(h:Rd ok w v (.row l)):∃A n c,v=.slice A n c∧l.length=n∧n≤c:=by
 cases h with
 |nil A c=>exact⟨A,0,c,rfl,rfl,ww _⟩
 |row b o n c k l f hn h0 hc=>exact⟨_,n,c,rfl,hn,hc⟩
theorem Rd.len{A:Option Addr}{n c:Nat}{l:aa1}(h:Rd ok w (.slice A n c) (.row l)):l.length=n:=by
 cases h with
 |nil=>rfl
 |row _ _ _ _ _ _ _ hn=>exact hn
theorem Rd.cap{A:Option Addr}{n c:Nat}{l:aa1}(h:Rd ok w (.slice A n c) (.row l)):n≤c:=by
 cases h with
 |nil=>exact ww _
 |row _ _ _ _ _ _ _ _ _ hc=>exact hc
theorem Rd.cells{A:Option Addr}{n c:Nat}{l:aa1}(h:Rd ok w (.slice A n c) (.row l))(h0:0 < n) :
  ∃b o k,A=some ⟨b,o,none⟩∧b < w.heap.size∧ok b∧(∀i (h:i < l.length),(l[i]).length=k) ∧
   ∀i j (h:i < l.length) (h':j < (l[i]).length),∃u,w.cell? ⟨b,o+i * k+j,none⟩=some u∧Rd ok w u ((l[i])[j]):=by
 cases h with
 |nil=>omega
 |row b o n c k l f hn _ hc hb hok hk hf hr=>exact⟨b,o,k,rfl,hb,hok,hk,fun i j h h'=>⟨f i j,hf i j h h',hr i j h h'⟩⟩
theorem Rd.mk{b o n c k:Nat}{l:aa1}(hn:l.length=n)(hc:n≤c)(hb:b < w.heap.size)(hok:ok b)(hk:∀i (h:i < l.length),(l[i]).length=k)
  (hf:∀i j (h:i < l.length) (h':j < (l[i]).length),∃u,w.cell? ⟨b,o+i * k+j,none⟩=some u∧Rd ok w u ((l[i])[j])):Rd ok w (.slice (some ⟨b,o,none⟩) n c) (.row l):=by
 rcases Zas n with e | e
 ·subst e;obtain rfl:l=[]:=Za9 hn;exact .nil _ _
 ·let f:Nat→Nat→Value:=fun i j=>(w.cell? ⟨b,o+i * k+j,none⟩).getD (.int .i64 0)
  refine .row b o n c k l f hn e hc hb hok hk (fun i j h h'=>?_) (fun i j h h'=>?_)
  ·obtain⟨u,h1,_⟩:=hf i j h h';simp only[f,h1,Zb3]
  ·obtain⟨u,h1,h2⟩:=hf i j h h';simp only[f,h1,Zb3];exact h2
theorem Rd.take{A:Option Addr}{n c m:Nat}{l:aa1}(h:Rd ok w (.slice A n c) (.row l))(hm:m≤n):Rd ok w (.slice A m c) (.row (l.take m)):=by
 have hl:=h.len;rcases Zas m with e | e
 ·subst e;exact .nil _ _
 ·obtain⟨b,o,k,rfl,hb,hok,hk,hf⟩:=h.cells J;refine Rd.mk (k:=k) (by rw[Zaz];omega) (by have:=h.cap;omega) hb hok (fun i hi=>?_) (fun i j hi hj=>?_)
  ·rw[List.getElem_take];exact hk i _
  ·simp only[List.getElem_take]at hj ⊢
   exact hf i j (by rw[Zaz]at hi;omega) hj
end
def Dt.one:Dt→Bool
 |.val v=>v.oneCell'
 |.row _=>true
theorem Rd.one{ok:Nat→Prop}{w:World}{v:Value}{d:Dt}(h:Rd ok w v d)(hd:d.one=true):v.oneCell'=true:=by
 cases h with
 |val v=>exact hd
 |nil=>rfl
 |row=>rfl
structure aZ (ok:Nat→Prop) (w:World) (base:Nat) (E:TypeId) (k:Nat) (A:Option Addr) (n c:Nat) (l:aa1):Prop where
 len:l.length=n
 own:∃xs,w.ownsRow base E k (.slice A n c) n xs∧∀i (hi:i < l.length),(l[i]).length=k∧∀j (hj:j < (l[i]).length),∃u,xs[i * k+j]?=some u∧Rd (fun b=>ok b∧A≠some ⟨b,0,none⟩) w u (l[i])[j]
section
variable {ok ok':Nat→Prop} {w w':World} {base:Nat} {E:TypeId} {k:Nat} {A:Option Addr} {n c:Nat} {l:aa1}
theorem aZ.nil(ok:Nat→Prop)(w:World)(base:Nat)(E:TypeId)(k:Nat):aZ ok w base E k none 0 0 []:=⟨rfl,[],World.ownsRow_nil w base E k,fun i hi=>absurd hi I⟩
theorem aZ.made(ok:Nat→Prop)(w:World)(base:Nat)(E:TypeId)(k cap:Nat)(cur:Array Value)(hb:base≤w.heap.size)(hm:cap≤maxLen)(hs:cur.size=cap * k):aZ ok (w.alloc (.cells cur E)) base E k (some ⟨w.heap.size,0,none⟩) 0 cap [] :=
 ⟨rfl,[],World.ownsRow_made w cur cap hb hm hs,fun i hi=>absurd hi I⟩
theorem aZ.addr(h:aZ ok w base E k A n c l):A=none∨∃g,A=some ⟨g,0,none⟩∧base≤g∧g < w.heap.size:=by
 obtain⟨xs,⟨_,ho⟩,_⟩:=h.own;rcases ho with⟨hv,_⟩ | ⟨g,cap,cur,hv,hbg,hg,_⟩
 ·simp only[Zap]at hv;exact .inl hv.1
 ·simp only[Zap]at hv;refine .inr ⟨g,hv.1,hbg,?_⟩;rcases Zai g w.heap.size with hlt | hge
  ·exact hlt
  ·rw[ZaQ hge]at hg;cases hg
theorem aZ.rd(h:aZ ok w base E k A n c l):Rd (fun b=>ok b∨base≤b) w (.slice A n c) (.row l):=by
 obtain⟨xs,⟨hx,ho⟩,he⟩:=h.own;have hlen:=h.len;rcases Zas n with h0 | h0
 ·subst h0;obtain rfl:l=[]:=Za9 hlen;exact .nil _ _
 ·rcases ho with⟨_,h1⟩ | ⟨g,cap,cur,hv,hbg,hg,hnc,hcm,hcs,ht⟩
  ·omega
  ·simp only[Zap]at hv;obtain⟨rfl,_,rfl⟩:=hv;refine Rd.mk (k:=k) hlen hnc ?_ (.inr hbg) (fun i hi=>(he i hi).1) (fun i j hi hj=>?_)
   ·rcases Zai g w.heap.size with hlt | hge
    ·exact hlt
    ·rw[ZaQ hge]at hg;cases hg
   ·obtain⟨u,h1,h2⟩:=(he i hi).2 j hj;refine⟨u,?_,h2.mono fun b hb _=>.inl hb.1⟩;have hj':j < k:=by rw[←(he i hi).1];exact hj
    have hlt:i * k+j < n * k:=by
     have:(i+1) * k≤n * k:=ZaJ k J;rw[Nat.add_mul]at this;omega
    have e:cur[i * k+j]?=some u:=by
     rw[←h1,←ht,List.getElem?_take_of_lt hlt];simp
    simp[World.cell?,hg,Nat.zero_add,e]
theorem aZ.keep(h:aZ ok w base E k A n c l)(hs:w.heap.size≤w'.heap.size)(hb:∀g,g < w.heap.size→(ok g∨A=some ⟨g,0,none⟩)→w'.heap[g]?=w.heap[g]?):aZ ok w' base E k A n c l:=by
 obtain⟨xs,⟨hx,ho⟩,he⟩:=h.own;refine⟨h.len,xs,⟨hx,?_⟩,fun i hi=>⟨(he i hi).1,fun j hj=>?_⟩⟩
 ·rcases ho with hv | ⟨g,cap,cur,hv,hbg,hg,hr⟩
  ·exact .inl hv
  ·refine .inr ⟨g,cap,cur,hv,hbg,?_,hr⟩;simp only[Zap]at hv;rw[hb g ?_ (.inr hv.1)];exact hg;rcases Zai g w.heap.size with hlt | hge
   ·exact hlt
   ·rw[ZaQ hge]at hg;cases hg
 ·obtain⟨u,h1,h2⟩:=(he i hi).2 j hj;exact⟨u,h1,h2.keep hs fun b hb' hlt=>hb b hlt (.inl hb'.1)⟩
theorem aZ.mono(h:aZ ok w base E k A n c l)(hk:∀b,ok b→b < w.heap.size→ok' b):aZ ok' w base E k A n c l:=by
 obtain⟨xs,ho,he⟩:=h.own;exact⟨h.len,xs,ho,fun i hi=>⟨(he i hi).1,fun j hj=>by
  obtain⟨u,h1,h2⟩:=(he i hi).2 j hj;exact⟨u,h1,h2.mono fun b hb hlt=>⟨hk b hb.1 hlt,hb.2⟩⟩⟩⟩
end
section
variable {P:Program} {w:World}
theorem a7u(ok:Nat→Prop)(base:Nat)(t ty E:TypeId)(z:Value)(k bytes:Nat)(ht:P.underlying t=some (.slice E))(hinfo:(P.info? E).map (fun i=>(i.zero,i.size,i.bytes))=some (some z,k,bytes))(hz:z.cells.size=k)(hk0:0 < k)
  (A:Option Addr) (n c:Nat) (l:aa1) (hown:aZ ok w base E k A n c l) (A':Option Addr) (m c':Nat) (l':aa1) (hm:l'.length=m)
  (hsrc:0 < m→∃b o,A'=some ⟨b,o,none⟩∧∀i (hi:i < l'.length),(l'[i]).length=k∧∀j (hj:j < (l'[i]).length),∃u,w.cell? ⟨b,o+i * k+j,none⟩=some u∧Rd (fun b=>ok b∧A≠some ⟨b,0,none⟩) w u (l'[i])[j]∧u.oneCell'=true)
  (hn:n+m≤maxLen) (hbytes:(n+m) * bytes≤140737488355328) (hbase:base≤w.heap.size) :
  ∃A2 c2 w2,(Builtin.append_ #[t,t] ty #[.slice A n c,.slice A' m c']).run P w=.ok (.slice A2 (n+m) c2) w2∧aZ ok w2 base E k A2 (n+m) c2 (l++l') ∧
   (∀g,g < w.heap.size→A≠some ⟨g,0,none⟩→w2.heap[g]?=w.heap[g]?)∧w.heap.size≤w2.heap.size∧w2.os=w.os∧w2.tape=w.tape∧w2.output=w.output∧(A2=A∨A2=some ⟨w.heap.size,0,none⟩):=by
 obtain⟨i0,hi0,hz0,hz1,hz2⟩:=info_parts hinfo;rcases Zas m with h0 | h0
 ·subst h0;obtain rfl:l'=[]:=Za9 hm;refine⟨A,c,w,?_,by simpa using hown,fun _ _ _=>rfl,NE _,rfl,rfl,rfl,.inl rfl⟩;obtain⟨xs,⟨_,ho⟩,_⟩:=hown.own;rcases ho with⟨hv,h0⟩ | ⟨g,cap,cur,hv,_,_,hnc,_⟩
  ·simp only[Zap]at hv;obtain⟨rfl,rfl,rfl⟩:=hv;rcases A' with _ | ad <;> simp[Builtin.append_,Zat ht,sizeOf,typeInfo,hi0,Builtin.lenOf,Builtin.firstCells,loadCells,loadCellsFrom]
  ·simp only[Zap]at hv;obtain⟨rfl,_,rfl⟩:=hv;rcases A' with _ | ad <;> simp[Builtin.append_,Zat ht,sizeOf,typeInfo,hi0,Builtin.lenOf,Builtin.firstCells,hnc,storeCells,loadCells,loadCellsFrom]
 ·obtain⟨b,o,rfl,hel⟩:=hsrc h0;obtain⟨xs,ho,he⟩:=hown.own;have hdiv:∀q,q < m * k→q / k < m∧q % k < k:=fun q hq=>⟨Nat.div_lt_of_lt_mul (by rwa [Zbb]at hq),Nat.mod_lt _ hk0⟩
  have Tn:∀q,q / k * k+q % k=q:=fun q=>by rw[Zbb];exact Nat.div_add_mod q k
  let news:List Value:=(List.range (m * k)).map fun q=>(w.cell? ⟨b,o+q,none⟩).getD (.int .i64 0)
  have hnl:news.length=m * k:=by simp[news]
  have hnew:∀i (hi:i < l'.length) j (hj:j < (l'[i]).length),∃u,news[i * k+j]?=some u∧w.cell? ⟨b,o+(i * k+j),none⟩=some u∧Rd (fun b=>ok b∧A≠some ⟨b,0,none⟩) w u (l'[i])[j]∧u.oneCell'=true:=by
   intro i hi j hj;obtain⟨hk,hj2⟩:=hel i hi;obtain⟨u,h1,h2,h3⟩:=hj2 j hj;have hlt:i * k+j < m * k:=by
    have:(i+1) * k≤m * k:=ZaJ k J;rw[Nat.add_mul]at this;omega
   refine⟨u,?_,by rw[←Nat.add_assoc];exact h1,h2,h3⟩;simp only[news];rw[Zag,List.getElem?_range hlt,Option.map_some,←Nat.add_assoc,h1,Zb3]
  have hall:∀q u,news[q]?=some u→w.cell? ⟨b,o+q,none⟩=some u∧u.oneCell'=true:=by
   intro q u hq;have hlt:q < m * k:=by rw[←hnl];exact (Pi.1 hq).1
   obtain⟨h1,h2⟩:=hdiv q hlt;obtain⟨hk,_⟩:=hel (q / k) J;obtain⟨u',e1,e2,_,e3⟩:=hnew (q / k) J (q % k) J;rw[Tn]at e1 e2;rw[hq]at e1;injection e1 with e1
   subst e1;exact⟨e2,e3⟩
  have hadd:∀q,(⟨b,o,none⟩:Addr).add q=⟨b,o+q,none⟩:=fun q=>by
   unfold Addr.add;split
   ·subst q;rfl
   ·rfl
  obtain⟨v',w2,hrun,h2,h3,h4,h5⟩:=run_append_own_at (P:=P) w base t ty E i0 z k bytes ht hi0 hz0 hz1 hz2 hz hk0 _ n xs ho ⟨b,o,none⟩ m c' news hnl (fun q u hq=>by rw[hadd];exact (hall q u hq).1) (by
   intro u hu;obtain⟨q,hq⟩:=List.getElem?_of_mem hu;exact (hall q u hq).2) hn hbytes hbase
  obtain⟨A2,c2,rfl,hA2⟩:∃A2 c2,v'=.slice A2 (n+m) c2∧∃g,A2=some ⟨g,0,none⟩:=by
   rcases h2.2 with⟨_,h0⟩ | ⟨g,cap,cur,rfl,_⟩
   ·omega
   ·exact⟨_,_,rfl,g,rfl⟩
  obtain⟨g2,rfl⟩:=hA2;have hAg:∀g,A=some ⟨g,0,none⟩↔(Value.slice A n c).ownBlock=some g:=by
   intro g;rcases hown.addr with rfl | ⟨g',rfl,_⟩
   ·simp[Value.ownBlock]
   ·simp[Value.ownBlock]
  have hblk:∀g,g < w.heap.size→A≠some ⟨g,0,none⟩→w2.heap[g]?=w.heap[g]?:=fun g hg hne=>h3.block g hg fun e=>hne ((hAg g).2 e.symm)
  have a2h:(some ⟨g2,0,none⟩:Option Addr)=A∨g2=w.heap.size:=by
   rcases h5 with e | e
   ·left;exact ((hAg g2).2 (by rw[←e];rfl)).symm
   ·right;simpa[Value.ownBlock] using e
  have Dw:∀u d,Rd (fun b=>ok b∧A≠some ⟨b,0,none⟩) w u d→Rd (fun b=>ok b∧(some ⟨g2,0,none⟩:Option Addr)≠some ⟨b,0,none⟩) w2 u d:=by
   intro u d hr;refine (hr.lt.mono (ok':=fun b=>(ok b∧A≠some ⟨b,0,none⟩)∧b < w.heap.size) fun _ h _=>h).keep h3.size (fun b hb _=>hblk b hb.2 hb.1.2) |>.mono ?_
   intro b hb _;refine⟨hb.1.1,?_⟩;rcases a2h with e | e
   ·rw[e];exact hb.1.2
   ·intro e2;injection e2 with e2
    injection e2 with e2
    have:=hb.2;omega
  refine⟨_,c2,w2,hrun,⟨by rw[Za4,hown.len,hm],xs++news,h2,fun i hi=>?_⟩,hblk,h3.size,h3.os,h3.tape,h3.output,?_⟩
  ·have hxl:xs.length=n * k:=ho.1;rw[Za4]at hi;by_cases hin:i < l.length
   ·have hil:i < n:=by rw[←hown.len];exact hin
    have e:(l++l')[i]'(by rw[Za4];omega)=l[i]:=List.getElem_append_left hin;simp only[e];refine⟨(he i hin).1,fun j hj=>?_⟩;obtain⟨u,h6,h7⟩:=(he i hin).2 j hj;refine⟨u,?_,Dw _ _ h7⟩;rw[ZaN ((Pi.1 h6).1)];exact h6
   ·have hil:n≤i:=by rw[←hown.len];omega
    have a2i:i - n < l'.length:=by have:=hown.len;omega
    have e:(l++l')[i]'(by rw[Za4];omega)=l'[i - n]:=by
     rw[List.getElem_append_right J];congr 1;have:=hown.len;omega
    simp only[e];refine⟨(hel _ a2i).1,fun j hj=>?_⟩;obtain⟨u,h6,_,h7,_⟩:=hnew (i - n) a2i j hj;refine⟨u,?_,Dw _ _ h7⟩;have ee:i * k+j=n * k+((i - n) * k+j):=by
     rw[Nat.sub_mul];have:n * k≤i * k:=ZaJ k hil;omega
    rw[ee,←hxl,ZaK J,Nat.add_sub_cancel_left];exact h6
  ·rcases a2h with e | e
   ·exact .inl e
   ·right;rw[e]
theorem a7v(t E:TypeId)(z:Value)(k bytes:Nat)(ht:P.underlying t=some (.slice E))(hinfo:(P.info? E).map (fun i=>(i.zero,i.size,i.bytes))=some (some z,k,bytes))
  (kl kc:IntKind) (C:Int) (n:Nat) (hC:C=(n:Int)) (hbytes:bytes * n≤281474976710656) (hn:n≤maxLen) :
  ∃CS:Array Value,CS.size=n * k∧∀w:World,(Instr.makeSlice t (.int kl 0) (.int kc C)).run P w=.ok (.slice (some ⟨w.heap.size,0,none⟩) 0 n) (w.alloc (.cells CS E)):=by
 obtain⟨i0,hi0,hz0,hz1,hz2⟩:=info_parts hinfo;subst hC;have h63':(n:Int)≤9223372036854775807:=by
  have h:=hn;simp[maxLen]at h;omega
 have hb':(i0.bytes:Int) * (n:Int)≤281474976710656:=by
  have h:((i0.bytes * n:Nat):Int)≤281474976710656:=by rw[hz2];omega
  rwa [Int.natCast_mul]at h
 have hr:=fun w:World=>run_make (P:=P) w t E i0 z ht hi0 hz0 kl kc 0 n (Int.le_refl _) J hb' h63'
 simp only[Int.toNat_zero,Int.toNat_natCast]at hr;exact⟨_,by rw[←hz1];exact size_madeCells _ _,hr⟩
theorem Rd.src{ok ok':Nat→Prop}{A A':Option Addr}{m c' k:Nat}{l':aa1}(h:Rd ok' w (.slice A' m c') (.row l'))(hok:∀b,ok' b→b < w.heap.size→ok b∧A≠some ⟨b,0,none⟩)(hk:∀x∈l',x.length=k∧∀d∈x,d.one=true) :
  0 < m→∃b o,A'=some ⟨b,o,none⟩∧∀i (hi:i < l'.length),(l'[i]).length=k∧∀j (hj:j < (l'[i]).length),∃u,w.cell? ⟨b,o+i * k+j,none⟩=some u∧Rd (fun b=>ok b∧A≠some ⟨b,0,none⟩) w u (l'[i])[j]∧u.oneCell'=true:=by
 intro h0;obtain⟨b,o,k',rfl,hb,_,hk',hf⟩:=h.cells h0;have hl:=h.len;have e:k'=k:=by rw[←hk' 0 J];exact (hk _ (Zay _)).1
 subst e;refine⟨b,o,rfl,fun i hi=>⟨hk' i hi,fun j hj=>?_⟩⟩;obtain⟨u,h1,h2⟩:=hf i j hi hj;exact⟨u,h1,h2.mono hok,h2.one ((hk _ (Zay _)).2 _ (Zay _))⟩
end
structure Sy where
 pkg:aa0
 name:aa0
 deriving DecidableEq
end Go.Proofs.YthhknjlmjefklaaGreatDoor
namespace Go.Proofs.YthhknjlmjefklaaGreatDoor
open Tryz
open Go.RowKit Go.ChangeShapes Go.WideShapes Go.Deep
section
variable {H:Type} {enc:TypeId×Value→H} {P:Program} {w:World} {base:Nat} {spare:Nat→Bool} {held:Bool}
theorem a6B(s:ByteArray):Value.string s=str s.data.toList:=by unfold str;rfl
theorem a7w{a:Addr}{q:Nat}{v:Value}(h:w.cell? (a.add 0)=some v):a.add q=⟨a.block,a.off+q,none⟩:=by
 have hs:a.spot=none:=by
  unfold Addr.add at h;simp only[ZaP]at h;unfold World.cell? at h;split at h
  ·cases hsp:a.spot with
   |none=>rfl
   |some x=>simp[hsp]at h
  ·cases h
 unfold Addr.add;split
 ·subst q;obtain⟨b,o,sp⟩:=a;simp only at hs;subst hs;rfl
 ·rfl
def Reads(w:World)(cs:List Value)(ds:List Dt):Prop:=cs.length=ds.length∧∀j (hj:j < ds.length),∃u,cs[j]?=some u∧Rd (fun _=>True) w u ds[j]
theorem Wn{α:Type}(mG:α→List Dt)(Good:α→Prop)(k:Nat)(hk:0 < k)(hlen:∀a,(mG a).length=k){t e:TypeId}{fuel:Nat}{cs:List Value}{x:DataW H×List MemPlace}
  (ht:P.underlying t=some (.slice e)) (hc:P.cellsOf e=k) (h:DataW.trod enc P w base spare held fuel t cs=some x)
  (elem:∀n,fuel=n+1→∀cs' y,DataW.trod enc P w base spare held n e cs'=some y→∃a,Good a∧Reads w cs' (mG a)) :
  ∃(A:Option Addr) (n c:Nat) (l:List α),cs=[.slice A n c]∧Rd (fun _=>True) w (.slice A n c) (.row (l.map mG))∧n≤maxLen∧∀a∈l,Good a:=by
 rcases DataW.trod_slice ht h with⟨rfl,_⟩ | ⟨a,len,cap,elems,rest,n,hfu,rfl,_,hb,hl,hm,hel,hx,_,_⟩
 ·exact⟨none,0,0,[],rfl,.nil _ _,ww _,fun s hs=>by cases hs⟩
 ·rw[hc]at hx;have he:∀i,i < len→∃y:α,Good y∧∀j (hj:j < (mG y).length),∃u,w.cell? (a.add (i * k+j))=some u∧Rd (fun _=>True) w u (mG y)[j]:=by
   intro i hi;have h1:=hx i hi;rw[Za2 J]at h1;obtain⟨cs',h2,h3⟩:=Option.bind_eq_some_iff.1 h1;obtain⟨y,hg,hr⟩:=elem n hfu cs' _ h3;refine⟨y,hg,fun j hj=>?_⟩;obtain⟨u,h4,h5⟩:=hr.2 j hj;obtain⟨_,hcl,hat⟩:=World.cells?_some h2;have hjk:j < k:=by rw[←hlen y];exact hj
   have:=hat j hjk;rw[Go.Deep.add_add]at this;exact⟨u,by rw[this,h4],h5⟩
  rcases Zas len with e0 | e0
  ·subst e0;exact⟨some a,0,cap,[],rfl,.nil _ _,ww _,fun s hs=>by cases hs⟩
  ·obtain⟨y0,_,_⟩:=he 0 e0;have hch:∃f:Nat→α,∀i,i < len→Good (f i)∧∀j (hj:j < (mG (f i)).length),∃u,w.cell? (a.add (i * k+j))=some u∧Rd (fun _=>True) w u (mG (f i))[j]:=by
    refine⟨fun i=>if h:i < len then Classical.choose (he i h) else y0,fun i hi=>?_⟩;simp only[hi,dif_pos];exact Classical.choose_spec (he i hi)
   obtain⟨f,hf⟩:=hch;obtain⟨u0,h00,_⟩:=(hf 0 e0).2 0 (by rw[hlen];exact hk);have a2j:w.cell? (a.add 0)=some u0:=by simpa using h00
   have hadd:∀q,a.add q=⟨a.block,a.off+q,none⟩:=fun q=>a7w a2j
   have ha:a=⟨a.block,a.off,none⟩:=by
    have:=hadd 0;simpa[Addr.add] using this
   refine⟨some a,len,cap,(List.range len).map f,rfl,?_,Za6 hl hm,?_⟩
   ·rw[ha];refine Rd.mk (k:=k) I hl (World.block_lt_of_cell? _ _ a2j |> fun h=>by simpa[hadd] using h) trivial (fun i hi=>?_) (fun i j hi hj=>?_)
    ·rw[List.getElem_map];exact hlen _
    ·have hi':i < len:=by simpa using hi
     simp only[List.getElem_map,List.getElem_range]at hj ⊢
     obtain⟨u,g0,g1⟩:=(hf i hi').2 j hj;rw[hadd]at g0;exact⟨u,by rw[←g0,Nat.add_assoc],g1⟩
   ·intro s hs;obtain⟨i,hi,rfl⟩:=List.mem_map.1 hs;exact (hf i (List.mem_range.1 hi)).1
end
structure Raw where
 kind:Int
 n:Int
 s:aa0
 l:List Raw
namespace Raw
mutual
def enc:Raw→List Dt
 |⟨k,n,s,l⟩=>[.val (.int .i64 k),.val (.int .i64 n),.val (str s),.row (D9 l)]
def D9:List Raw→aa1
 |[]=>[]
 |o::r=>enc o::D9 r
end
mutual
def size:Raw→Nat
 |⟨_,_,_,l⟩=>eQ l+1
def eQ:List Raw→Nat
 |[]=>0
 |o::r=>size o+eQ r
end
theorem Oc(l:List Raw):D9 l=l.map enc:=by
 induction l with
 |nil=>rfl
 |cons o r ih=>rw[D9,ih];rfl
theorem pO(o:Raw):o.enc=[.val (.int .i64 o.kind),.val (.int .i64 o.n),.val (str o.s),.row (o.l.map enc)]:=by
 cases o;rw[enc,Oc]
theorem nJ(o:Raw):o.enc.length=4:=by rw[pO];rfl
theorem size_pos(o:Raw):0 < o.size:=by cases o;rw[size];omega
theorem NC{l:List Raw}{o:Raw}(h:o∈l):o.size≤eQ l:=by
 induction l with
 |nil=>cases h
 |cons x r ih =>
  rw[eQ];rcases Zao.1 h with rfl | h
  ·omega
  ·have:=ih h;omega
theorem zI{o x:Raw}(h:x∈o.l):x.size < o.size:=by
 obtain⟨k,n,s,l⟩:=o;rw[size];have:=NC (l:=l) h;omega
theorem ind{motive:Raw→Prop}(step:∀o,(∀x∈o.l,motive x)→motive o)(o:Raw):motive o:=by
 have:∀n (o:Raw),o.size≤n→motive o:=by
  intro n
  induction n with
  |zero=>intro o h;have:=size_pos o;omega
  |succ n ih=>intro o h;exact step o fun x hx=>ih x (by have:=zI hx;omega)
 exact this o.size o (NE _)
inductive Wf:Raw→Prop
 |mk (o:Raw) (k0:-9223372036854775808≤o.kind) (k1:o.kind≤9223372036854775807) (n0:-9223372036854775808≤o.n) (n1:o.n≤9223372036854775807) (hs:o.s.length≤9223372036854775807) (hl:o.l.length≤9223372036854775807) (h:∀x∈o.l,Wf x):Wf o
end Raw
abbrev JM(o:Raw)(P:Value):Value:=.agg #[.int .i64 o.kind,.int .i64 o.n,str o.s,P]
section
variable {H:Type} {enc:TypeId×Value→H} {w:World} {base:Nat} {spare:Nat→Bool} {held:Bool}
theorem Oe:prog.cellsOf 51=4:=by kernel_rfl
theorem b2D:prog.cellsOf 3=1:=by kernel_rfl
theorem cellsS:prog.cellsOf 9=1:=by kernel_rfl
theorem a9X:prog.cellsOf 22=1:=by kernel_rfl
theorem a7x{s:ByteArray}(h:s.size≤maxLen):s.data.toList.length≤9223372036854775807:=by unfold maxLen at h;rw[←Zar];exact h
theorem WZ:∀(fuel:Nat) (cs:List Value) (x:DataW H×List MemPlace),DataW.trod enc prog w base spare held fuel 51 cs=some x→∃r:Raw,r.Wf∧Reads w cs r.enc:=by
 intro fuel
 induction fuel using Nat.strongRecOn with
 |_ fuel ih =>
  intro cs x h;obtain⟨xs,n,hfu,_,hlen,hxl,hf⟩:=DataW.trod_struct Tryz.underlying51 h;rw[Oe]at hlen
  match cs,hlen with
  |[c0,c1,c2,c3],_ =>
   have f0:DataW.trod enc prog w base spare held n 3 (List.take (prog.cellsOf 3) (List.drop 0 [c0,c1,c2,c3]))=xs[0]?:=hf 0 _ rfl;have f1:DataW.trod enc prog w base spare held n 3 (List.take (prog.cellsOf 3) (List.drop 1 [c0,c1,c2,c3]))=xs[1]?:=hf 1 _ rfl;have f2:DataW.trod enc prog w base spare held n 9 (List.take (prog.cellsOf 9) (List.drop 2 [c0,c1,c2,c3]))=xs[2]?:=hf 2 _ rfl;have f3:DataW.trod enc prog w base spare held n 22 (List.take (prog.cellsOf 22) (List.drop 3 [c0,c1,c2,c3]))=xs[3]?:=hf 3 _ rfl;rw[b2D]at f0 f1;rw[cellsS]at f2;rw[a9X]at f3
   match xs,hxl with
   |[y0,y1,y2,y3],_ =>
    replace f0:DataW.trod enc prog w base spare held n 3 [c0]=some y0:=f0
    replace f1:DataW.trod enc prog w base spare held n 3 [c1]=some y1:=f1
    replace f2:DataW.trod enc prog w base spare held n 9 [c2]=some y2:=f2
    replace f3:DataW.trod enc prog w base spare held n 22 [c3]=some y3:=f3
    obtain⟨k,e0,_,w0⟩:=DataW.trod_int Tryz.underlying3 f0;obtain⟨m,e1,_,w1⟩:=DataW.trod_int Tryz.underlying3 f1;obtain⟨s,e2,_,w2⟩:=DataW.trod_string Tryz.underlying9 f2;obtain⟨A,n',c',l,e3,hr,hn,hg⟩:=Wn Raw.enc Raw.Wf 4 J Raw.nJ Tryz.underlying22 Oe f3 (fun n'' c1S cs' y hy=>ih n'' J cs' y hy);injection e0 with e0
    injection e1 with e1
    injection e2 with e2
    injection e3 with e3
    have b0:=bounds_i64 w0;have b1:=bounds_i64 w1;have hll:l.length=n':=by have:=hr.len;rwa [EQ]at this
    refine⟨⟨k,m,s.data.toList,l⟩,.mk _ b0.1 b0.2 b1.1 b1.2 (a7x w2) (by show l.length≤_;rw[hll];unfold maxLen at hn;exact hn) hg,by rw[Raw.nJ];rfl,fun j hj=>?_⟩
    simp only[Raw.pO];rw[Raw.nJ]at hj;rcases j with _ | _ | _ | _ | j
    ·exact⟨c0,rfl,by rw[e0];exact .val _⟩
    ·exact⟨c1,rfl,by rw[e1];exact .val _⟩
    ·exact⟨c2,rfl,by rw[e2,a6B];exact .val _⟩
    ·exact⟨c3,rfl,by rw[e3];exact hr⟩
    ·omega
end
end Go.Proofs.YthhknjlmjefklaaGreatDoor
namespace Go.Proofs.YthhknjlmjefklaaGreatDoor
open Tryz
open Go.RowKit
theorem byteAt{D:ByteArray}{l:aa0}(h:D.data.toList=l)(k:Nat)(hk:k < D.size):∃hl:k < l.length,D[k]=l[k]:=by
 subst h;exact⟨by rw[←Zar];exact hk,rfl⟩
def Sv(c:UInt8):Bool:=decide (97≤c.toNat) && decide (c.toNat≤122)
def a0W(c:UInt8):Bool:=Sv c || decide (c.toNat=45) || (decide (48≤c.toNat) && decide (c.toNat≤57))
def mi(i:Nat)(c:UInt8):Bool:=if i=0 then Sv c else a0W c
def ja(l:aa0):Bool:=decide (1≤l.length) && decide (l.length≤40) && (List.range l.length).all fun i=>mi i (l.getD i 0)
def kW(l:aa0):Bool:=decide (1≤l.length) && decide (l.length≤40)
def Y8(s:Sy):Bool:=ja s.pkg && kW s.name
theorem GZ{l:aa0}{k:Nat}(hk:k < l.length)(h:mi k l[k]=false):ja l=false:=by
 unfold ja;rw[Bool.and_eq_false_iff];right;rw[Zal];intro hc;have:=Zav.1 hc k (List.mem_range.2 hk);rw[bi,Za2 hk]at this;simp only[Zb3]at this;rw[h]at this;cases this
theorem VD{l:aa0}(h1:1≤l.length)(h2:l.length≤40)(h:∀i (hi:i < l.length),mi i l[i]=true):ja l=true:=by
 unfold ja;simp only[AC,Za3];refine⟨⟨h1,h2⟩,Zav.2 fun i hi=>?_⟩;have hi:=List.mem_range.1 hi;rw[bi,Za2 hi];exact h i hi
theorem ug{i:Nat}{c:UInt8}:mi i c=true↔((97≤c.toNat∧c.toNat≤122)∨(i≠0∧(c.toNat=45∨(48≤c.toNat∧c.toNat≤57)))):=by
 unfold mi a0W Sv;by_cases h:i=0 <;> simp[h]
 omega
theorem GL{i:Nat}{c:UInt8}:mi i c=false↔¬((97≤c.toNat∧c.toNat≤122)∨(i≠0∧(c.toNat=45∨(48≤c.toNat∧c.toNat≤57)))):=by
 rw[←ug];simp
theorem Ha{l:aa0}(h:l.length < 1∨40 < l.length):ja l=false:=by
 unfold ja;rcases h with h | h
 ·have:decide (1≤l.length)=false:=by simpa using h
  rw[this];rfl
 ·have:decide (l.length≤40)=false:=by simpa using h
  rw[this];simp
theorem GM{l:aa0}(h:l.length < 1∨40 < l.length):kW l=false:=by
 unfold kW;rcases h with h | h
 ·have:decide (1≤l.length)=false:=by simpa using h
  rw[this];rfl
 ·have:decide (l.length≤40)=false:=by simpa using h
  rw[this];simp
theorem Wp(c:Nat):(97≤c∧c≤122)∨(c=45∧c≤45)∨(48≤c∧c≤57)∨(c < 48∧c≠45)∨(57 < c∧c < 97)∨(122 < c∧c≠45):=J
theorem a4A(l:aa0)(w:World)(hl:l.length≤9223372036854775807) :
  Calls prog 236 #[str l] w (Oa (.bool (ja l)) w):=by
 obtain⟨D,hD⟩:∃D:ByteArray,D=⟨l.toArray⟩:=⟨_,rfl⟩;unfold str;rw[←hD];have HT:Hid (D.data.toList=l):=by rw[hD];exact (rfl:l.toArray.toList=l)
 have fO:Hid (D.size=l.length):=by show _=_;rw[Zar,HT.out]
 have hsz:D.size≤9223372036854775807:=by rw[fO.out];exact hl
 clear hD hl;by_cases h1:D.size < 1
 ·have HR:=WP (Ha (l:=l) (.inl (by rw[←fO.out];exact h1)))
  go_enter func236,ntmps236
  go_wp2;go_ret;exact⟨by rw[HR.out];rfl,rfl⟩
 ·by_cases h2:40 < D.size
  ·have HR:=WP (Ha (l:=l) (.inr (by rw[←fO.out];exact h2)))
   go_enter func236,ntmps236
   go_wp2;go_ret;exact⟨by rw[HR.out];rfl,rfl⟩
  ·have hp:0 < D.size:=J;obtain⟨hl0,e0⟩:=byteAt HT.out 0 hp;have E0:=WP e0;clear e0;by_cases h3:97≤D[0].toNat∧D[0].toNat≤122
   ·obtain⟨h3,h4⟩:=h3
    go_enter func236,ntmps236
    go_wp2
    go_loop [3] (fun ix=>∃k:Nat,k≤D.size∧ix=.int .i64 k∧Hid (∀i (hi:i < l.length),i < k→mi i l[i]=true)) (fun ix=>D.size - (intOf ix).toNat)
    case atStart=>exact⟨0,ww _,rfl,WP (fun i _ h=>absurd h J)⟩
    case round =>
     obtain⟨k,hk,rfl,HK⟩:=hrel;by_cases hlt:k < D.size
     ·obtain⟨hkl,ek⟩:=byteAt HT.out k hlt;have EK:=WP ek;have HU:Hid (mi k l[k]=true→∀i (hi:i < l.length),i < k+1→mi i l[i]=true):=fun hc i hi h=>by
       rcases Zai i k with h' | h'
       ·exact HK.out i hi h'
       ·obtain rfl:i=k:=J;exact hc
      have H0:Hid (k=0→97≤D[k].toNat∧D[k].toNat≤122):=fun e=>by subst e;exact⟨h3,h4⟩
      clear ek;rcases Wp D[k].toNat with⟨g1,g2⟩ | ⟨g1,g2⟩ | ⟨g1,g2⟩ | ⟨g1,g2⟩ | ⟨g1,g2⟩ | ⟨g1,g2⟩
      ·go_wp2
       go_round
       case rel=>exact⟨k+1,J,by go_num,WP (HU.out (ug.2 (by rw[←EK.out];omega)))⟩
       case measure=>simp only[intOf];omega
      ·have hne:((D[k].toNat:Int) != 45)=false:=by rw[bne_eq_false_iff_eq];omega
       have hk0:k≠0:=fun e=>by have:=H0.out e;omega
       go_wp2
       go_round
       case rel=>exact⟨k+1,J,by go_num,WP (HU.out (ug.2 (by rw[←EK.out];omega)))⟩
       case measure=>simp only[intOf];omega
      ·have hk0:k≠0:=fun e=>by have:=H0.out e;omega
       go_wp2
       go_round
       case rel=>exact⟨k+1,J,by go_num,WP (HU.out (ug.2 (by rw[←EK.out];omega)))⟩
       case measure=>simp only[intOf];omega
      all_goals
       have hne:((D[k].toNat:Int) != 45)=true:=by rw[bne_iff_ne];omega
       have HR:=WP (GZ hkl (GL.2 (by rw[←EK.out];omega)));go_wp2;go_ret;exact⟨by rw[HR.out];rfl,rfl⟩
     ·have HR:=WP (VD (l:=l) (by rw[←fO.out];omega) (by rw[←fO.out];omega) (fun i hi=>HK.out i hi (by rw[←fO.out]at hi;omega)));go_wp2;go_ret;exact⟨by rw[HR.out];rfl,rfl⟩
   ·have HR:=WP (GZ hl0 (GL.2 (by rw[←E0.out];omega)));rcases Zai D[0].toNat 97 with h5 | h5
    ·go_enter func236,ntmps236
     go_wp2;go_ret;exact⟨by rw[HR.out];rfl,rfl⟩
    ·have h6:122 < D[0].toNat:=J
     go_enter func236,ntmps236
     go_wp2;go_ret;exact⟨by rw[HR.out];rfl,rfl⟩
theorem UR(s:Sy)(w:World)(hp:s.pkg.length≤9223372036854775807)(hn:s.name.length≤9223372036854775807) :
  Calls prog 255 #[.agg #[str s.pkg,str s.name]] w (P6 (.bool (Y8 s)) w):=by
 obtain⟨l,m⟩:=s;unfold str;dsimp only at hp hn ⊢;obtain⟨D,hD⟩:∃D:ByteArray,D=⟨l.toArray⟩:=⟨_,rfl⟩;obtain⟨E,hE⟩:∃E:ByteArray,E=⟨m.toArray⟩:=⟨_,rfl⟩;rw[←hD,←hE];have HT:Hid (D.data.toList=l):=by rw[hD];exact (rfl:l.toArray.toList=l)
 have fO:Hid (D.size=l.length):=by show _=_;rw[Zar,HT.out]
 have KC:Hid (E.size=m.length):=by show _=_;rw[Zar,hE]
 have hsz:D.size≤9223372036854775807:=by rw[fO.out];exact hp
 have hsm:E.size≤9223372036854775807:=by rw[KC.out];exact hn
 clear hD hE hp hn;have HP:Hid (ja l=false→Y8 ⟨l,m⟩=false):=fun h=>by unfold Y8;rw[h];rfl
 have HM:Hid (kW m=false→Y8 ⟨l,m⟩=false):=fun h=>by unfold Y8;rw[h];simp
 by_cases h1:D.size < 1
 ·have HR:=WP (HP.out (Ha (.inl (by rw[←fO.out];exact h1))))
  go_enter func255,ntmps255
  go_wp2;go_ret;exact⟨by rw[HR.out];rfl,(Below.refl _ _).alloc (NE _) _⟩
 by_cases h2:40 < D.size
 ·have HR:=WP (HP.out (Ha (.inr (by rw[←fO.out];exact h2))))
  go_enter func255,ntmps255
  go_wp2;go_ret;exact⟨by rw[HR.out];rfl,(Below.refl _ _).alloc (NE _) _⟩
 by_cases h3:E.size < 1
 ·have HR:=WP (HM.out (GM (.inl (by rw[←KC.out];exact h3))))
  go_enter func255,ntmps255
  go_wp2;go_ret;exact⟨by rw[HR.out];rfl,(Below.refl _ _).alloc (NE _) _⟩
 by_cases h4:40 < E.size
 ·have HR:=WP (HM.out (GM (.inr (by rw[←KC.out];exact h4))))
  go_enter func255,ntmps255
  go_wp2;go_ret;exact⟨by rw[HR.out];rfl,(Below.refl _ _).alloc (NE _) _⟩
 have HN:Hid (kW m=true):=by show _=_;unfold kW;rw[←KC.out];simp;omega
 go_enter func255,ntmps255
 go_wp2
 go_loop [31] (fun ix=>∃k:Nat,k≤D.size∧ix=.int .i64 k∧Hid (∀i (hi:i < l.length),i < k→mi i l[i]=true)) (fun ix=>D.size - (intOf ix).toNat)
 case atStart=>exact⟨0,ww _,rfl,WP (fun i _ h=>absurd h J)⟩
 case round =>
  obtain⟨k,hk,rfl,HK⟩:=hrel;by_cases hlt:k < D.size
  ·obtain⟨hkl,ek⟩:=byteAt HT.out k hlt;have EK:=WP ek;have HU:Hid (mi k l[k]=true→∀i (hi:i < l.length),i < k+1→mi i l[i]=true):=fun hc i hi h=>by
    rcases Zai i k with h' | h'
    ·exact HK.out i hi h'
    ·obtain rfl:i=k:=J;exact hc
   clear ek;rcases Zas k with hk0 | hk0
   ·subst hk0;by_cases g:97≤D[0].toNat∧D[0].toNat≤122
    ·obtain⟨g1,g2⟩:=g;go_wp2
     go_round
     case rel=>exact⟨1,J,rfl,WP (HU.out (ug.2 (by rw[←EK.out];omega)))⟩
     case measure=>simp only[intOf];omega
    ·have HR:=WP (HP.out (GZ hkl (GL.2 (by rw[←EK.out];omega))));rcases Zai D[0].toNat 97 with g1 | g1
     ·go_wp2;go_ret;exact⟨by rw[HR.out];rfl,(Below.refl _ _).alloc (NE _) _⟩
     ·have g2:122 < D[0].toNat:=J;have hd:decide ((D[0].toNat:Int)≤122)=false:=by simp;omega
      go_wp2;go_ret;exact⟨by rw[HR.out];rfl,(Below.refl _ _).alloc (NE _) _⟩
   ·have e0:((k:Int) == 0)=false:=by rw[IR];omega
    rcases Wp D[k].toNat with⟨g1,g2⟩ | ⟨g1,g2⟩ | ⟨g1,g2⟩ | ⟨g1,g2⟩ | ⟨g1,g2⟩ | ⟨g1,g2⟩
    ·go_wp2
     go_round
     case rel=>exact⟨k+1,J,by go_num,WP (HU.out (ug.2 (by rw[←EK.out];omega)))⟩
     case measure=>simp only[intOf];omega
    ·have hne:((D[k].toNat:Int) != 45)=false:=by rw[bne_eq_false_iff_eq];omega
     go_wp2
     go_round
     case rel=>exact⟨k+1,J,by go_num,WP (HU.out (ug.2 (by rw[←EK.out];omega)))⟩
     case measure=>simp only[intOf];omega
    ·have hne:((D[k].toNat:Int) != 45)=true:=by rw[bne_iff_ne];omega
     go_wp2
     go_round
     case rel=>exact⟨k+1,J,by go_num,WP (HU.out (ug.2 (by rw[←EK.out];omega)))⟩
     case measure=>simp only[intOf];omega
    all_goals
     have hne:((D[k].toNat:Int) != 45)=true:=by rw[bne_iff_ne];omega
     have HR:=WP (HP.out (GZ hkl (GL.2 (by rw[←EK.out];omega))))
     first
      | (have hd:decide ((D[k].toNat:Int)≤122)=false:=(by simp;omega);have hd2:97≤D[k].toNat:=J;go_wp2;go_ret;exact⟨by rw[HR.out];rfl,(Below.refl _ _).alloc (NE _) _⟩)
      | (go_wp2;go_ret;exact⟨by rw[HR.out];rfl,(Below.refl _ _).alloc (NE _) _⟩)
  ·have HR:Hid (Y8 ⟨l,m⟩=true):=by
    show _=_;unfold Y8;rw[VD (by rw[←fO.out];omega) (by rw[←fO.out];omega) (fun i hi=>HK.out i hi (by rw[←fO.out]at hi;omega)),HN.out];rfl
   go_wp2;go_ret;exact⟨by rw[HR.out];rfl,(Below.refl _ _).alloc (NE _) _⟩
theorem UT(n:Int)(w:World)(ht:Tab w)(h0:-9223372036854775808≤n)(h1:n≤9223372036854775807) :
  Calls prog 241 #[.int .i64 n,.int .i64 10] w fun e w'=>e=.returned (.string ⟨(Lib.itoa n).toArray⟩)∧Below w.heap.size w w':=by
 refine (Tryz.strconv_FormatInt_10 n h0 h1 w ht).mono ?_;rintro e w' ⟨rfl,k,os,rfl⟩;exact⟨rfl,Lib.below_grow _ _ (NE _) _ _⟩
theorem Wq(k:Nat)(hk:k≤9):((⟨#[48,48,48,48,48,48,48,48,48]⟩:ByteArray).extract k 9).data.toList=List.replicate (9 - k) 48:=by
 rw[Lib.extract_data];have:∀j:Fin 10,((([48,48,48,48,48,48,48,48,48]:aa0).drop j.val).take (9 - j.val))=List.replicate (9 - j.val) 48:=O;exact this ⟨k,J⟩
theorem Va{B:Nat}(hB:2≤B):∀(l:List Nat) (h:l≠[]),l.getLast h≠0→l9.D6 B l≠0
 |[],h,_=>absurd rfl h
 |[x],_,hl=>by simpa[l9.D6] using hl
 |x::y::r,_,hl=>by
  have:=Va hB (y::r) I (by simpa using hl);simp only[l9.D6]at this ⊢
  have h2:0 < B * (y+B * l9.D6 B r):=Nat.mul_pos J J;omega
theorem a5b{B v j:Nat}(hB:2≤B)(hj:j < (l9.limbs B v).length):l9.D6 B ((l9.limbs B v).drop j)≠0:=by
 have hne:(l9.limbs B v).drop j≠[]:=by intro e;have:=congrArg List.length e;rw[Za7]at this;simp at this;omega
 refine Va hB _ hne ?_;rw[List.getLast_drop];exact l9.a4L hB v _
theorem Vb{v j:Nat}(h0:0 < j)(hj:j < (l9.limbs 1000000000 v).length) :
  Lib.decDigits (l9.D6 1000000000 ((l9.limbs 1000000000 v).drop (j - 1)))=Lib.decDigits (l9.D6 1000000000 ((l9.limbs 1000000000 v).drop j))++(List.replicate (9 - (Lib.decDigits ((l9.limbs 1000000000 v).getD (j - 1) 0)).length) 48++Lib.decDigits ((l9.limbs 1000000000 v).getD (j - 1) 0)):=by
 obtain⟨m,rfl⟩:∃m,j=m+1:=⟨j - 1,J⟩;rw[Zb7,l9.uh _ _ m J,l9.a4M (a5b J hj) ((l9.Q4 J v).getD J m)];rfl
def iE(ng:Bool):aa0:=if ng then [45] else []
theorem Ws(ng:Bool){v:Nat}(hv:v≠0):Lib.itoa (if ng then -(v:Int) else v)=iE ng++Lib.decDigits v:=by
 cases ng
 ·simp[iE,l9.qX]
 ·simp[iE,l9.BV hv]
theorem UU(w:World)(T e:TypeId):Lib.IsBuilder T e w.heap.size w.heap.size (Lib.byteCells []) (w.alloc (.cells #[.pointer none,.slice none 0 0] T)) :=
 .inl ⟨NE _,.slice none 0 0,heap_alloc_new w _,World.ownsRow_nil _ _ _ _,by simp[Value.ownBlock]⟩
def dF(ng:Bool)(v:Nat):aa0:=Lib.itoa (if ng then -(v:Int) else v)
def dG(l:aa0)(w:World)(e:Ending)(w':World):Prop:=e=.returned (.string ⟨l.toArray⟩)∧Below w.heap.size w w'
theorem MO(ng:Bool):(iE ng).length≤1:=by cases ng <;> simp[iE]
theorem Gz(ng:Bool):dF ng 0=[48]:=by cases ng <;> exact l9.jR
theorem Gs{T e:TypeId}{B b:Nat}{bs:List Value}{w w':World}(h:Lib.IsBuilder T e B b bs w)(hb:Below w.heap.size w w'):Lib.IsBuilder T e B b bs w':=by
 have key:∀p,Lib.BuilderAt T e B b p bs w→Lib.BuilderAt T e B b p bs w':=by
  rintro p ⟨h1,v,h2,h3,h4⟩;have hlt:b < w.heap.size:=by
   rcases Zai b w.heap.size with h | h
   ·exact h
   ·rw[ZaQ h]at h2;cases h2
  refine⟨h1,v,(hb.block b hlt).trans h2,⟨h3.1,?_⟩,h4⟩;rcases h3.2 with hv | ⟨g,cap,cur,hv,hbg,hg,hr⟩
  ·exact .inl hv
  ·refine .inr ⟨g,cap,cur,hv,hbg,?_,hr⟩;rw[hb.block g ?_];exact hg;rcases Zai g w.heap.size with h | h
   ·exact h
   ·rw[ZaQ h]at hg;cases hg
 exact h.imp (key _) (key _)
theorem Cc{w W1 w':World}{T:TypeId}{u v:Value}(h:W1=w.alloc (.cells #[u,v] T))(hb:Below (w.heap.size+1) W1 w'):w'.cell? ⟨w.heap.size,0,none⟩=some u∧w'.cell? ⟨w.heap.size,1,none⟩=some v:=by
 subst h;have hk:=(F5.new w T #[u,v]).keep (hb.block w.heap.size J);exact⟨hk.cell 0,hk.cell 1⟩
theorem Hq(k:Nat):((⟨#[48,48,48,48,48,48,48,48,48]⟩:ByteArray).extract k 9).size≤9:=by
 rw[Zar,Lib.extract_data,Zaz,Za7];simp
theorem Vo(ng:Bool){v n:Nat}(hl:(l9.limbs 1000000000 v).length=n)(hn:n≤100000000)(j:Nat):(iE ng++Lib.decDigits (l9.D6 1000000000 ((l9.limbs 1000000000 v).drop j))).length≤1000000000000:=by
 have h1:=MO ng;have h2:=l9.mf (B:=1000000000) J ((l9.Q4 J v).drop j);rw[Za7,hl]at h2;have h3:(1000000000:Nat) ^ (n - j)≤10 ^ (9 * n+1):=by
  have e:(1000000000:Nat)=10 ^ 9:=O;rw[e,←Nat.pow_mul];exact ZaF J J
 have h4:=l9.qQ (k:=9 * n+1) J (Zaa h2 h3);rw[Za4];omega
theorem wG(ng:Bool)(A:Option Addr)(n c v:Nat)(w:World)(hx:Sl w .u32 A n c (l9.limbs 1000000000 v))(hn:n≤100000000)(ht:Tab w) :
  Calls prog 244 #[.agg #[.bool ng,.slice A n c]] w (dG (dF ng v) w):=by
 have HL:=WP hx.len;by_cases h0:n=0
 ·have hv:v=0:=(l9.qR (B:=1000000000) J).1 (Za9 (by rw[HL.out];exact h0));subst h0;subst hv
  go_enter func244,ntmps244
  go_wp2;go_ret;refine⟨?_,(Below.refl _ _).alloc (NE _) _⟩;rw[Gz];rfl
 ·have hv:v≠0:=fun e=>h0 (by rw[←HL.out,e];rfl)
  have HSg:Hid (∀g,dF g v=iE g++Lib.decDigits v):=fun g=>Ws g hv
  have hb0:((n:Int) == 0)=false:=by rw[IR];omega
  obtain⟨b,off,rfl,hbl,hcx⟩:=hx.cells J;have hct:=hcx (n - 1) J;clear hcx;have hu:=getD_lt (l:=l9.limbs 1000000000 v) (l9.Q4 J v) J (n - 1);have Sz:Hid (l9.D6 1000000000 ((l9.limbs 1000000000 v).drop (n - 1))=(l9.limbs 1000000000 v).getD (n - 1) 0):=by
   show _=_;rw[l9.uh _ _ (n - 1) (by rw[HL.out];omega),Zax (by rw[HL.out];omega)];simp[l9.D6]
  generalize (l9.limbs 1000000000 v).getD (n - 1) 0=u at hct hu Sz;clear hv;cases ng
  ·have HS:=WP (HSg.out false)
   go_enter func244,ntmps244
   go_wp2_with fail
   obtain⟨W1,hW1⟩:∃W1,W1=w.alloc (.cells #[.bool false,.slice (some ⟨b,off,none⟩) n c] 269):=⟨_,rfl⟩;have jc:W1.heap.size=w.heap.size+1:=by rw[hW1];simp
   have xw:Below w.heap.size w W1:=by rw[hW1];exact (Below.refl _ _).alloc (NE _) _
   rw[←hW1];have hbu:=UU W1 287 5;rw[jc]at hbu;have hbx:Below (w.heap.size+1) W1 (W1.alloc (.cells #[.pointer none,.slice none 0 0] 287)):=(Below.refl _ _).alloc (by rw[jc];exact NE _) _;refine (zh (u:Int) _ ((ht.below xw).alloc _) J J).mono ?_;rintro e w2 ⟨rfl,hb2⟩;have hbd2:Below (w.heap.size+1) W1 w2:=hbx.trans (hb2.mono (by rw[World.size_alloc,jc];omega));have hB2:Lib.IsBuilder 287 5 (w.heap.size+1) (w.heap.size+1) (Lib.byteCells (iE false)) w2:=Gs hbu hb2;have HI:Hid (Lib.itoa (u:Int)=Lib.decDigits u):=l9.qX;have hdl:=l9.qQ (k:=9) (u:=u) J J;rw[HI.out];obtain⟨S,hS⟩:∃S:ByteArray,S=⟨(Lib.decDigits u).toArray⟩:=⟨_,rfl⟩;rw[←hS];have ET:Hid (S.data.toList=Lib.decDigits u):=by rw[hS];exact (rfl:(Lib.decDigits u).toArray.toList=_)
   have hS9:S.size≤9:=by rw[Zar,ET.out];exact hdl
   clear hS hdl
   go_wp2_with fail
   refine (yJ (w.heap.size+1) (w.heap.size+1) _ S _ hB2 (by rw[Lib.byteCells_length];have:=MO false;omega) (by have:=hbd2.size;rw[jc]at this;exact this)).mono ?_
   rintro e w3 ⟨rfl,hB3,hb3⟩;have Ej:Below (w.heap.size+1) W1 w3:=hbd2.trans hb3;have SA:Lib.IsBuilder 287 5 (w.heap.size+1) (w.heap.size+1) (Lib.byteCells (iE false++Lib.decDigits (l9.D6 1000000000 ((l9.limbs 1000000000 v).drop (n - 1))))) w3:=by
    rw[Sz.out,Lib.byteCells_append];have:=hB3;rw[Lib.strCells_eq,ET.out]at this;exact .inr this
   obtain⟨q0,q1⟩:=Cc hW1 Ej;go_wp2
   go_loopw [4] (fun ix wr=>∃j:Nat,j < n∧ix=.int .i64 ((j:Int) - 1)∧Lib.IsBuilder 287 5 (w.heap.size+1) (w.heap.size+1) (Lib.byteCells (iE false++Lib.decDigits (l9.D6 1000000000 ((l9.limbs 1000000000 v).drop j)))) wr∧Below (w.heap.size+1) W1 wr) (fun ix _=>(intOf ix+1).toNat)
   case atStart=>exact⟨n - 1,J,by go_num,SA,Ej⟩
   case round =>
    obtain⟨j,hj,rfl,hBr,hbr⟩:=hrel;obtain⟨p0,p1⟩:=Cc hW1 hbr;have hbw:Below w.heap.size w wr:=xw.trans (hbr.mono J);have Em:w.heap.size+1≤wr.heap.size:=by have:=hbr.size;rw[jc]at this;exact this
    by_cases hj0:0 < j
    ·obtain⟨b',off',eA,_,hcr⟩:=(hx.below hbw).cells J;injection eA with eA
     injection eA with Tq Tt
     subst Tq Tt;have hcy:=hcr (j - 1) J;clear hcr;have hy:=getD_lt (l:=l9.limbs 1000000000 v) (l9.Q4 J v) J (j - 1);have HR:=WP (Vb (v:=v) hj0 (by rw[HL.out];exact hj));generalize (l9.limbs 1000000000 v).getD (j - 1) 0=y at hcy hy HR;have hi1:(0:Int)≤(j:Int) - 1:=J;have hi2:(j:Int) - 1 < n:=J;have hi3:((j:Int) - 1).toNat=j - 1:=J
     go_wp2_with fail
     refine (zh (y:Int) _ (ht.below hbw) J J).mono ?_;rintro e w4 ⟨rfl,hb4⟩;have xx:Below (w.heap.size+1) W1 w4:=hbr.trans (hb4.mono Em);have hB4:=Gs hBr hb4;have HI2:Hid (Lib.itoa (y:Int)=Lib.decDigits y):=l9.qX;have hdl:=l9.qQ (k:=9) (u:=y) J J;rw[HI2.out];obtain⟨Y,hY⟩:∃Y:ByteArray,Y=⟨(Lib.decDigits y).toArray⟩:=⟨_,rfl⟩;rw[←hY];have xQ:Hid (Y.data.toList=Lib.decDigits y):=by rw[hY];exact (rfl:(Lib.decDigits y).toArray.toList=_)
     have Tu:Y.size≤9:=by rw[Zar,xQ.out];exact hdl
     have Tv:Hid (Y.size=(Lib.decDigits y).length):=by show _=_;rw[Zar,xQ.out]
     clear hY hdl;have SB:(Lib.byteCells (iE false++Lib.decDigits (l9.D6 1000000000 ((l9.limbs 1000000000 v).drop j)))).length≤1000000000000:=by
      rw[Lib.byteCells_length];exact Vo false HL.out hn j
     go_wp2_with fail
     refine (yJ (w.heap.size+1) (w.heap.size+1) _ _ _ hB4 (by have:=Hq Y.size;omega) (by have:=xx.size;rw[jc]at this;exact this)).mono ?_
     rintro e w5 ⟨rfl,Tz,hb5⟩;have b7l:=SB
     go_wp2_with fail
     refine (yJ (w.heap.size+1) (w.heap.size+1) _ _ _ (.inr Tz) (by rw[Za4,Lib.strCells_length];have:=Hq Y.size;omega) (by have:=(xx.trans hb5).size;rw[jc]at this;exact this)).mono ?_
     rintro e w6 ⟨rfl,TA,hb6⟩;have TB:Lib.IsBuilder 287 5 (w.heap.size+1) (w.heap.size+1) (Lib.byteCells (iE false++Lib.decDigits (l9.D6 1000000000 ((l9.limbs 1000000000 v).drop (j - 1))))) w6:=by
      rw[HR.out,←Zah,←Zah,Lib.byteCells_append,Lib.byteCells_append];have:=TA;rw[Lib.strCells_eq,Lib.strCells_eq,Wq _ Tu,Tv.out,xQ.out]at this;exact .inr this
     have hbd6:=(xx.trans hb5).trans hb6;go_wp2
     go_roundw
     case rel=>exact⟨j - 1,J,by go_num,TB,hbd6⟩
     case measure=>simp only[intOf];omega
    ·have hjz:j=0:=J;subst hjz
     go_wp2_with fail
     refine (Tryz.Builder_String_any (w.heap.size+1) (w.heap.size+1) _ _ hBr Em).mono ?_;rintro e w7 ⟨rfl,hb7⟩;go_wp2;go_ret;refine⟨?_,xw.trans ((hbr.trans hb7).mono J)⟩;rw[HS.out,l9.L8 J];rfl
  ·have HS:=WP (HSg.out true)
   go_enter func244,ntmps244
   go_wp2_with fail
   obtain⟨W1,hW1⟩:∃W1,W1=w.alloc (.cells #[.bool true,.slice (some ⟨b,off,none⟩) n c] 269):=⟨_,rfl⟩;have jc:W1.heap.size=w.heap.size+1:=by rw[hW1];simp
   have xw:Below w.heap.size w W1:=by rw[hW1];exact (Below.refl _ _).alloc (NE _) _
   rw[←hW1];have hbu:=UU W1 287 5;rw[jc]at hbu;have hbx:Below (w.heap.size+1) W1 (W1.alloc (.cells #[.pointer none,.slice none 0 0] 287)):=(Below.refl _ _).alloc (by rw[jc];exact NE _) _;refine (a4O (w.heap.size+1) (w.heap.size+1) _ 45 _ hbu (by simp[Lib.byteCells]) (by rw[World.size_alloc,jc];omega)).mono ?_;rintro e w9 ⟨rfl,hB9,KD⟩;have JO:=hbx.trans KD;have a2k:Below w.heap.size w w9:=xw.trans (JO.mono J);have b7m:w.heap.size+1≤w9.heap.size:=by have:=JO.size;rw[jc]at this;exact this
   obtain⟨s0,s1⟩:=Cc hW1 JO;have c1T:=(a2k.cell (p:=⟨b,off+(n - 1),none⟩) hbl).trans hct
   go_wp2_with fail
   refine (zh (u:Int) _ (ht.below a2k) J J).mono ?_;rintro e w2 ⟨rfl,hb2⟩;have hbd2:Below (w.heap.size+1) W1 w2:=JO.trans (hb2.mono b7m);have hB2:Lib.IsBuilder 287 5 (w.heap.size+1) (w.heap.size+1) (Lib.byteCells (iE true)) w2:=Gs (.inr hB9) hb2;have HI:Hid (Lib.itoa (u:Int)=Lib.decDigits u):=l9.qX;have hdl:=l9.qQ (k:=9) (u:=u) J J;rw[HI.out];obtain⟨S,hS⟩:∃S:ByteArray,S=⟨(Lib.decDigits u).toArray⟩:=⟨_,rfl⟩;rw[←hS];have ET:Hid (S.data.toList=Lib.decDigits u):=by rw[hS];exact (rfl:(Lib.decDigits u).toArray.toList=_)
   have hS9:S.size≤9:=by rw[Zar,ET.out];exact hdl
   clear hS hdl
   go_wp2_with fail
   refine (yJ (w.heap.size+1) (w.heap.size+1) _ S _ hB2 (by rw[Lib.byteCells_length];have:=MO true;omega) (by have:=hbd2.size;rw[jc]at this;exact this)).mono ?_
   rintro e w3 ⟨rfl,hB3,hb3⟩;have Ej:Below (w.heap.size+1) W1 w3:=hbd2.trans hb3;have SA:Lib.IsBuilder 287 5 (w.heap.size+1) (w.heap.size+1) (Lib.byteCells (iE true++Lib.decDigits (l9.D6 1000000000 ((l9.limbs 1000000000 v).drop (n - 1))))) w3:=by
    rw[Sz.out,Lib.byteCells_append];have:=hB3;rw[Lib.strCells_eq,ET.out]at this;exact .inr this
   obtain⟨q0,q1⟩:=Cc hW1 Ej;go_wp2
   go_loopw [4] (fun ix wr=>∃j:Nat,j < n∧ix=.int .i64 ((j:Int) - 1)∧Lib.IsBuilder 287 5 (w.heap.size+1) (w.heap.size+1) (Lib.byteCells (iE true++Lib.decDigits (l9.D6 1000000000 ((l9.limbs 1000000000 v).drop j)))) wr∧Below (w.heap.size+1) W1 wr) (fun ix _=>(intOf ix+1).toNat)
   case atStart=>exact⟨n - 1,J,by go_num,SA,Ej⟩
   case round =>
    obtain⟨j,hj,rfl,hBr,hbr⟩:=hrel;obtain⟨p0,p1⟩:=Cc hW1 hbr;have hbw:Below w.heap.size w wr:=xw.trans (hbr.mono J);have Em:w.heap.size+1≤wr.heap.size:=by have:=hbr.size;rw[jc]at this;exact this
    by_cases hj0:0 < j
    ·obtain⟨b',off',eA,_,hcr⟩:=(hx.below hbw).cells J;injection eA with eA
     injection eA with Tq Tt
     subst Tq Tt;have hcy:=hcr (j - 1) J;clear hcr;have hy:=getD_lt (l:=l9.limbs 1000000000 v) (l9.Q4 J v) J (j - 1);have HR:=WP (Vb (v:=v) hj0 (by rw[HL.out];exact hj));generalize (l9.limbs 1000000000 v).getD (j - 1) 0=y at hcy hy HR;have hi1:(0:Int)≤(j:Int) - 1:=J;have hi2:(j:Int) - 1 < n:=J;have hi3:((j:Int) - 1).toNat=j - 1:=J
     go_wp2_with fail
     refine (zh (y:Int) _ (ht.below hbw) J J).mono ?_;rintro e w4 ⟨rfl,hb4⟩;have xx:Below (w.heap.size+1) W1 w4:=hbr.trans (hb4.mono Em);have hB4:=Gs hBr hb4;have HI2:Hid (Lib.itoa (y:Int)=Lib.decDigits y):=l9.qX;have hdl:=l9.qQ (k:=9) (u:=y) J J;rw[HI2.out];obtain⟨Y,hY⟩:∃Y:ByteArray,Y=⟨(Lib.decDigits y).toArray⟩:=⟨_,rfl⟩;rw[←hY];have xQ:Hid (Y.data.toList=Lib.decDigits y):=by rw[hY];exact (rfl:(Lib.decDigits y).toArray.toList=_)
     have Tu:Y.size≤9:=by rw[Zar,xQ.out];exact hdl
     have Tv:Hid (Y.size=(Lib.decDigits y).length):=by show _=_;rw[Zar,xQ.out]
     clear hY hdl;have SB:(Lib.byteCells (iE true++Lib.decDigits (l9.D6 1000000000 ((l9.limbs 1000000000 v).drop j)))).length≤1000000000000:=by
      rw[Lib.byteCells_length];exact Vo true HL.out hn j
     go_wp2_with fail
     refine (yJ (w.heap.size+1) (w.heap.size+1) _ _ _ hB4 (by have:=Hq Y.size;omega) (by have:=xx.size;rw[jc]at this;exact this)).mono ?_
     rintro e w5 ⟨rfl,Tz,hb5⟩;have b7l:=SB
     go_wp2_with fail
     refine (yJ (w.heap.size+1) (w.heap.size+1) _ _ _ (.inr Tz) (by rw[Za4,Lib.strCells_length];have:=Hq Y.size;omega) (by have:=(xx.trans hb5).size;rw[jc]at this;exact this)).mono ?_
     rintro e w6 ⟨rfl,TA,hb6⟩;have TB:Lib.IsBuilder 287 5 (w.heap.size+1) (w.heap.size+1) (Lib.byteCells (iE true++Lib.decDigits (l9.D6 1000000000 ((l9.limbs 1000000000 v).drop (j - 1))))) w6:=by
      rw[HR.out,←Zah,←Zah,Lib.byteCells_append,Lib.byteCells_append];have:=TA;rw[Lib.strCells_eq,Lib.strCells_eq,Wq _ Tu,Tv.out,xQ.out]at this;exact .inr this
     have hbd6:=(xx.trans hb5).trans hb6;go_wp2
     go_roundw
     case rel=>exact⟨j - 1,J,by go_num,TB,hbd6⟩
     case measure=>simp only[intOf];omega
    ·have hjz:j=0:=J;subst hjz
     go_wp2_with fail
     refine (Tryz.Builder_String_any (w.heap.size+1) (w.heap.size+1) _ _ hBr Em).mono ?_;rintro e w7 ⟨rfl,hb7⟩;go_wp2;go_ret;refine⟨?_,xw.trans ((hbr.trans hb7).mono J)⟩;rw[HS.out,l9.L8 J];rfl
end Go.Proofs.YthhknjlmjefklaaGreatDoor
