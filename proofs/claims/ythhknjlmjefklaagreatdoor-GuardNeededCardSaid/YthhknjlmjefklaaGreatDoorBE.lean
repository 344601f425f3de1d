/- lispproverref1.Valid: which strings are decimals. -/
import Derived.Test.YthhknjlmjefklaaGreatDoorBB
import Derived.Test.YthhknjlmjefklaaGreatDoorBC
import Derived.Test.YthhknjlmjefklaaGreatDoorBA
import Derived.Laws.BytesArg
import Derived.IntWalk
import Derived.Deep.QuietTactic
import Derived.BigQuiet
import Derived.Deep.DeepCutAuto
import Derived.Deep.LoopGhost
set_option maxRecDepth 100000
set_option maxHeartbeats 4000000
namespace Go.Proofs.YthhknjlmjefklaaGreatDoor
open Tryz
open Go.RowKit
theorem WA{l:aa0}(h0:(l == [48])=false)(h:l9.mag l=[]):l9.U4 l=false:=by
 unfold l9.U4;rw[h0,h];rfl
theorem Xl{l:aa0}{c:UInt8}{r:aa0}(h0:(l == [48])=false)(h:l9.mag l=c::r)(hc:c.toNat=48):l9.U4 l=false:=by
 rw[UY h hc,h0]
theorem Hg{D:ByteArray}{l:aa0}(h:D.data.toList=l)(f k:Nat)(hf:f≤k)(hk:k < D.size):∃hl:k - f < (l.drop f).length,D[k]=(l.drop f)[k - f]:=by
 obtain⟨h1,e⟩:=byte_at h k hk;refine⟨by rw[Za7];omega,?_⟩;rw[e];simp only[List.getElem_drop];congr 1;omega
theorem GH{l:aa0}(h:0 < l.length):∃c r,l=c::r:=by
 cases l with
 |nil=>simp at h
 |cons c r=>exact⟨c,r,rfl⟩
theorem a5d(l:aa0)(w:World)(hl:l.length≤9223372036854775807) :
    Calls prog 141 #[.string ⟨l.toArray⟩] w fun e w'=>e=.returned (.bool (l9.U4 l))∧w=w':=by
  obtain⟨D,hD⟩:∃D:ByteArray,D=⟨l.toArray⟩:=⟨_,rfl⟩;rw[←hD];have HT:Hid (D.data.toList=l):=by rw[hD];exact (rfl:l.toArray.toList=l)
  clear hD;have hsz:D.size≤9223372036854775807:=by rw[Zar,HT.out];exact hl
  cases h48:(l == [48]) with
  |true =>
    have hE:(D.toList == [48])=true:=by rw[Zb2,HT.out];exact h48
    have HR:Hid (l9.U4 l=true):=by show _=_;unfold l9.U4;rw[h48];rfl
    clear h48
    go_enter func141,ntmps141
    go_wp2;go_ret;exact⟨by rw[HR.out];rfl,rfl⟩
  |false =>
    have hE:(D.toList == [48])=false:=by rw[Zb2,HT.out];exact h48
    have KO:=WP h48;clear h48;by_cases h0:D.size=0
    · have HR:=WP (WA KO.out (by rw[←HT.out,Za9 (l:=D.data.toList) (by rw[←Zar];exact h0)];rfl))
      go_enter func141,ntmps141
      go_wp2;go_ret;exact⟨by rw[HR.out];rfl,rfl⟩
    · have hpos:0 < D.size:=J
      obtain⟨hl0,e0⟩:=byte_at HT.out 0 hpos;obtain⟨c0,r0,hcr⟩:=GH hl0;have ec:D[0]=c0:=by rw[e0];simp[hcr]
      by_cases h45:c0=45
      · have HM:Hid (l9.mag l=l.drop 1):=by show _=_;rw[hcr,h45,l9.wF];rfl
        have rO:((D[0].toNat:Int) == 45)=true:=by rw[ec,h45];rfl
        clear h45 e0 ec hcr hl0;by_cases hf:D.size≤1
        · have HR:=WP (WA KO.out (by rw[HM.out,Zax (by rw[←HT.out,←Zar];exact hf)]))
          go_enter func141,ntmps141
          go_wp2;go_ret;exact⟨by rw[HR.out];rfl,rfl⟩
        · have hfs:1 < D.size:=J
          obtain⟨hlf,ef⟩:=Hg HT.out 1 1 (NE _) hfs;obtain⟨c,r,hcr⟩:=GH (l:=l.drop 1) J;have ec:D[1]=c:=by rw[ef];simp[hcr]
          by_cases h8:D[1].toNat=48
          · have HR:=WP (Xl KO.out (HM.out.trans hcr) (by rw[←ec];exact h8))
            have hb48:((D[1].toNat:Int) == 48)=true:=by rw[beq_iff_eq];omega
            clear h8 ef ec hcr hlf
            go_enter func141,ntmps141
            go_wp2;go_ret;exact⟨by rw[HR.out];rfl,rfl⟩
          · have HF:=WP (Nl (HM.out.trans hcr) (by rw[←ec];exact h8))
            have hb48:((D[1].toNat:Int) == 48)=false:=by rw[IR];omega
            clear h8 ef ec hcr hlf
            go_enter func141,ntmps141
            go_wp2
            go_loop [4] (fun ix=>∃k:Nat,1≤k∧k≤D.size∧ix=.int .i64 k∧Hid (l9.V3 ((l9.mag l).take (k - 1))=true)) (fun ix=>D.size - (intOf ix).toNat)
            case atStart=>exact⟨1,NE _,J,rfl,(rfl:l9.V3 ((l9.mag l).take 0)=true)⟩
            case round =>
              obtain⟨k,hfk,hk,rfl,HK⟩:=hrel;by_cases hlt:k < D.size
              · obtain⟨hkl,ek⟩:=Hg HT.out 1 k hfk hlt
                have EK:=WP ek;clear ek;rcases Zai D[k].toNat 48 with h1 | h1
                · have HR:Hid (l9.U4 l=false):=by show _=_;rw[HF.out,HM.out];exact zf hkl (.inl (by rw[←EK.out];exact h1))
                  go_wp2;go_ret;exact⟨by rw[HR.out];rfl,rfl⟩
                · rcases Zai 57 D[k].toNat with h2 | h2
                  · have HR:Hid (l9.U4 l=false):=by show _=_;rw[HF.out,HM.out];exact zf hkl (.inr (by rw[←EK.out];exact h2))
                    go_wp2;go_ret;exact⟨by rw[HR.out];rfl,rfl⟩
                  · go_wp2
                    go_round
                    case rel=>exact⟨k+1,J,J,by go_num,WP (by
                      have h3:=HK.out;rw[HM.out]at h3 ⊢
                      rw[show k+1 - 1=(k - 1)+1 by omega]
                      exact MM hkl h3 (by rw[←EK.out];exact h1) (by rw[←EK.out];exact h2))⟩
                    case measure=>simp only[intOf];omega
              · have HR:Hid (l9.U4 l=true):=by
                  show _=_;rw[HF.out];have:=HK.out
                  rwa [Zae (by rw[HM.out,Za7,←HT.out,←Zar];omega)]at this
                go_wp2;go_ret;exact⟨by rw[HR.out];rfl,rfl⟩
      · have HM:Hid (l9.mag l=l.drop 0):=by show _=_;rw[hcr];simp[l9.mag,h45]
        have rO:((D[0].toNat:Int) == 45)=false:=by
          rw[ec,IR];intro e;exact h45 (UInt8.toNat_inj.1 (by
                                           have:c0.toNat=45:=J;simpa using this))
        clear h45 e0 ec hcr hl0;by_cases hf:D.size≤0
        · omega
        · have hfs:0 < D.size:=J
          obtain⟨hlf,ef⟩:=Hg HT.out 0 0 (NE _) hfs;obtain⟨c,r,hcr⟩:=GH (l:=l.drop 0) J;have ec:D[0]=c:=by rw[ef];simp[hcr]
          by_cases h8:D[0].toNat=48
          · have HR:=WP (Xl KO.out (HM.out.trans hcr) (by rw[←ec];exact h8))
            have hb48:((D[0].toNat:Int) == 48)=true:=by rw[beq_iff_eq];omega
            clear h8 ef ec hcr hlf
            go_enter func141,ntmps141
            go_wp2;go_ret;exact⟨by rw[HR.out];rfl,rfl⟩
          · have HF:=WP (Nl (HM.out.trans hcr) (by rw[←ec];exact h8))
            have hb48:((D[0].toNat:Int) == 48)=false:=by rw[IR];omega
            clear h8 ef ec hcr hlf
            go_enter func141,ntmps141
            go_wp2
            go_loop [4] (fun ix=>∃k:Nat,0≤k∧k≤D.size∧ix=.int .i64 k∧Hid (l9.V3 ((l9.mag l).take (k - 0))=true)) (fun ix=>D.size - (intOf ix).toNat)
            case atStart=>exact⟨0,NE _,J,rfl,(rfl:l9.V3 ((l9.mag l).take 0)=true)⟩
            case round =>
              obtain⟨k,hfk,hk,rfl,HK⟩:=hrel;by_cases hlt:k < D.size
              · obtain⟨hkl,ek⟩:=Hg HT.out 0 k hfk hlt
                have EK:=WP ek;clear ek;rcases Zai D[k].toNat 48 with h1 | h1
                · have HR:Hid (l9.U4 l=false):=by show _=_;rw[HF.out,HM.out];exact zf hkl (.inl (by rw[←EK.out];exact h1))
                  go_wp2;go_ret;exact⟨by rw[HR.out];rfl,rfl⟩
                · rcases Zai 57 D[k].toNat with h2 | h2
                  · have HR:Hid (l9.U4 l=false):=by show _=_;rw[HF.out,HM.out];exact zf hkl (.inr (by rw[←EK.out];exact h2))
                    go_wp2;go_ret;exact⟨by rw[HR.out];rfl,rfl⟩
                  · go_wp2
                    go_round
                    case rel=>exact⟨k+1,J,J,by go_num,WP (by
                      have h3:=HK.out;rw[HM.out]at h3 ⊢
                      rw[show k+1 - 0=(k - 0)+1 by omega]
                      exact MM hkl h3 (by rw[←EK.out];exact h1) (by rw[←EK.out];exact h2))⟩
                    case measure=>simp only[intOf];omega
              · have HR:Hid (l9.U4 l=true):=by
                  show _=_;rw[HF.out];have:=HK.out
                  rwa [Zae (by rw[HM.out,Za7,←HT.out,←Zar];omega)]at this
                go_wp2;go_ret;exact⟨by rw[HR.out];rfl,rfl⟩
theorem a2t(l:aa0)(z:Bool)(hz:l9.U4 l=z)(hl:l.length≤9223372036854775807)(w:World):Calls prog 141 #[.string ⟨l.toArray⟩] w fun e w'=>e=.returned (.bool z)∧w=w':=by
 have:=a5d l w hl
 rwa [hz]at this
theorem kU:(prog.info? 3).map (fun i=>(i.zero,i.size,i.bytes))=some (some (.int .i64 0),1,8):=by kernel_rfl
theorem BN(A:Option Addr)(n c:Nat)(l:List Nat)(w:World)(h:Sl w .i64 A n c l)(hn:n≤1000000000) :
  Calls prog 142 #[.slice A n c] w fun e w'=>e=.returned (.slice A (l9.au l).length c)∧w=w':=by
 have hlen:=h.len;have hcap:=h.cap
 go_enter func142,ntmps142
 go_wp2
 go_loop [3] (fun v=>∃m:Nat,v=.int .i64 m∧m≤n∧Hid (l9.au (l.take m)=l9.au l)) (fun v=>(intOf v).toNat)
 case atStart=>exact⟨n,rfl,NE _,WP (by rw[Zae J])⟩
 case round =>
  obtain⟨m,rfl,hm,HT⟩:=hrel;by_cases h0:0 < m
  ·obtain⟨b,o,rfl,hb,hc⟩:=h.cells J;have hcm:=hc (m - 1) J;clear hc;go_wp2
   ·have hz:l.getD (m - 1) 0=0:=by simpa using ‹((l[m - 1]?.getD 0:Nat) == (0:Int))=true›
    go_round
    case rel=>exact⟨m - 1,by go_num,J,WP (by rw[Vz h0 J hz];exact HT.out)⟩
    case measure=>simp only[intOf];omega
   ·have hz:l.getD (m - 1) 0≠0:=by simpa using ‹((l[m - 1]?.getD 0:Nat) == (0:Int))=false›
    go_ret;refine⟨?_,rfl⟩;have e:(l9.au l).length=m:=by
     rw[←HT.out,VA h0 J hz,Zaz];omega
    rw[e];rfl
  ·have e:(l9.au l).length=m:=by
    rw[←HT.out,show m=0 by omega];rfl
   have HE:=WP e;clear e;go_wp2;go_ret;refine⟨?_,rfl⟩;rw[HE.out];rfl
def gz(K:Nat)(v:Int)(w:World)(e:Ending)(w':World):Prop :=
 ∃A n c,e=.returned (.tuple #[.bool (decide (v < 0)),.slice A n c])∧Sl w' .i64 A n c (l9.limbs 10 v.natAbs)∧n≤K∧Below w.heap.size w w'
theorem a5e(c:UInt8)(r:aa0):l9.jm (c::r)=l9.jm r++[c.toNat - 48]:=by simp[l9.jm]
theorem Vh(l:aa0)(j:Nat)(h0:0 < j)(hj:j≤l.length):l9.jm (l.drop (j - 1))=l9.jm (l.drop j)++[(l[j - 1]'J).toNat - 48]:=by
 obtain⟨m,rfl⟩:∃m,j=m+1:=⟨j - 1,J⟩;simp only[Zb7];rw[ZaT J,a5e]
theorem a4R(l:aa0)(w:World)(hl:l.length≤2500000) :
    Calls prog 105 #[.string ⟨l.toArray⟩] w (gz (l.length+1) (l9.D5 l) w):=by
  cases hv:l9.U4 l with
  |false =>
    have HV:=WP (a2t l false hv J w);have HD:Hid (l9.D5 l=0):=by show _=_;unfold l9.D5;rw[hv];rfl
    clear hv
    go_enter func105,ntmps105
    go_wp2_with fail
    refine HV.out.mono ?_;rintro e w' ⟨rfl,rfl⟩;go_wp2;go_ret2;exact⟨none,0,0,by rw[HD.out];rfl,by rw[HD.out];exact Sl.nil _ _ _ _,J,Below.refl _ _⟩
  |true =>
    have HV:=WP (a2t l true hv J w);obtain⟨D,hD⟩:∃D:ByteArray,D=⟨l.toArray⟩:=⟨_,rfl⟩;rw[←hD]at HV;rw[←hD];have HT:Hid (D.data.toList=l):=by rw[hD];exact (rfl:l.toArray.toList=l)
    clear hD;have hsz:D.size≤2500000:=by rw[Zar,HT.out];exact hl
    have fO:Hid (D.size=l.length):=by show _=_;rw[Zar,HT.out]
    by_cases h0:l=[48]
    · have hE:(D.toList == [48])=true:=by rw[Zb2,HT.out,h0];rfl
      have HD:Hid (l9.D5 l=0):=by rw[h0];exact l9.Wh
      clear hv h0
      go_enter func105,ntmps105
      go_wp2_with fail
      refine HV.out.mono ?_;rintro e w' ⟨rfl,rfl⟩;go_wp2;go_ret2;exact⟨none,0,0,by rw[HD.out];rfl,by rw[HD.out];exact Sl.nil _ _ _ _,J,Below.refl _ _⟩
    · have hE:(D.toList == [48])=false:=by rw[Zb2,HT.out];simpa using h0
      obtain⟨hd,hh⟩:=(l9.pz h0).1 hv;have hz:=(l9.BK _ hd hh).2;have Bj:Hid (l9.D5 l=if l9.neg l then -(l9.U5 (l9.mag l):Int) else l9.U5 (l9.mag l)):=by show _=_;unfold l9.D5;rw[Za0 hv]
      have HRv:=WP (l9.UO hd hh);have HDg:=WP hd;have hlp:0 < l.length:=by
        rcases Zas l.length with e | e
        · obtain⟨c,r,e2,_⟩:=hh
          have:=l9.lV l;rw[e2,Za1]at this;omega
        · exact e
      have hpos:0 < D.size:=by rw[fO.out];exact hlp
      obtain⟨_,e0⟩:=byte_at HT.out 0 hpos;obtain⟨c0,r0,hcr⟩:=GH hlp;have ec:D[0]=c0:=by rw[e0];simp[hcr]
      clear hv h0 hd hh e0;by_cases h45:c0=45
      · have HM:Hid (l9.mag l=l.drop 1):=by show _=_;rw[hcr,h45,l9.wF];rfl
        have iI:l9.neg l=true:=by rw[hcr,h45];rfl
        have HN:Hid (decide (l9.D5 l < 0)=true∧(l9.D5 l).natAbs=l9.U5 (l9.mag l)):=by show _∧_;rw[Bj.out,iI,Za0 rfl];exact⟨UV J,J⟩
        have rO:((D[0].toNat:Int) == 45)=true:=by rw[ec,h45];rfl
        clear h45 ec hcr iI hz
        go_enter func105,ntmps105
        go_wp2_with fail
        refine HV.out.mono ?_;rintro e w' ⟨rfl,rfl⟩;go_wp2
        go_loopw [6,7] (fun out ix wr=>∃(j c2 m:Nat) (A2:Option Addr),1≤j∧j≤D.size∧ix=.int .i64 ((j:Int) - 1)∧out=.slice A2 m c2∧m+j=D.size∧Own wr w.heap.size 3 .i64 A2 m c2 (l9.jm (l.drop j))∧Below w.heap.size w wr) (fun _ ix _=>(intOf ix+1).toNat)
        case atStart=>exact⟨D.size,0,0,none,J,NE _,rfl,rfl,J,by rw[Zax (by rw[fO.out];exact NE _)];exact Own.nil _ _ _ _,Below.refl _ _⟩
        case round =>
          obtain⟨j,c2,m,A2,hfj,hj,rfl,rfl,hmj,hown,hb⟩:=hrel;have Fg:=WP hmj;have b7q:m≤2500000:=J;clear hmj;by_cases hlt:1 < j
          · have hj1:j - 1 < D.size:=J
            obtain⟨hkl,ek⟩:=byte_at HT.out (j - 1) hj1;have hdg:=Zav.1 HDg.out D[j - 1] (by rw[HM.out,ek];exact List.mem_drop_iff_getElem.2 ⟨j - 1 - 1,J,by congr 1;omega⟩);simp only[l9.dm,AC,Za3]at hdg;obtain⟨g1,g2⟩:=hdg;have lJ:=WP (Vh l j J (by rw[←fO.out];exact hj));have EK:=WP ek;clear ek;have hi1:(0:Int)≤(j:Int) - 1:=J;have hi2:(j:Int) - 1 < D.size:=J;have hi3:((j:Int) - 1).toNat=j - 1:=J
            go_wp2_with (at_builtin;refine fQ (w0:=w) rfl _ _ _ rfl 3 .i64 8 Tryz.underlying175 kU J _ _ _ _ rfl hown _ (D[j - 1].toNat - 48) J rfl J hb ?_;intro A3 c3 w2 hown2 hb2 _ _ _)
            go_roundw
            case rel=>exact⟨j - 1,c3,m+1,A3,J,J,by go_num,rfl,by have:=Fg.out;omega,by rw[lJ.out,←EK.out];exact hown2,hb2⟩
            case measure=>simp only[intOf];omega
          · obtain rfl:j=1:=J
            go_wp2;go_ret2;refine⟨A2,m,c2,by rw[HN.out.1];rfl,?_,by have:=Fg.out;have:=fO.out;omega,hb⟩
            rw[HN.out.2,←HRv.out,HM.out];exact hown.sl
      · have HM:Hid (l9.mag l=l.drop 0):=by show _=_;rw[hcr];simp[l9.mag,h45]
        have iI:l9.neg l=false:=by rw[hcr];simp[l9.neg,h45]
        have HN:Hid (decide (l9.D5 l < 0)=false∧(l9.D5 l).natAbs=l9.U5 (l9.mag l)):=by show _∧_;rw[Bj.out,iI,lw I];exact⟨WF J,J⟩
        have rO:((D[0].toNat:Int) == 45)=false:=by
          rw[ec,IR];intro e;exact h45 (UInt8.toNat_inj.1 (by
                                           have:c0.toNat=45:=J;simpa using this))
        clear h45 ec hcr iI hz
        go_enter func105,ntmps105
        go_wp2_with fail
        refine HV.out.mono ?_;rintro e w' ⟨rfl,rfl⟩;go_wp2
        go_loopw [6,7] (fun out ix wr=>∃(j c2 m:Nat) (A2:Option Addr),0≤j∧j≤D.size∧ix=.int .i64 ((j:Int) - 1)∧out=.slice A2 m c2∧m+j=D.size∧Own wr w.heap.size 3 .i64 A2 m c2 (l9.jm (l.drop j))∧Below w.heap.size w wr) (fun _ ix _=>(intOf ix+1).toNat)
        case atStart=>exact⟨D.size,0,0,none,J,NE _,rfl,rfl,J,by rw[Zax (by rw[fO.out];exact NE _)];exact Own.nil _ _ _ _,Below.refl _ _⟩
        case round =>
          obtain⟨j,c2,m,A2,hfj,hj,rfl,rfl,hmj,hown,hb⟩:=hrel;have Fg:=WP hmj;have b7q:m≤2500000:=J;clear hmj;by_cases hlt:0 < j
          · have hj1:j - 1 < D.size:=J
            obtain⟨hkl,ek⟩:=byte_at HT.out (j - 1) hj1;have hdg:=Zav.1 HDg.out D[j - 1] (by rw[HM.out,ek];exact List.mem_drop_iff_getElem.2 ⟨j - 1 - 0,J,by congr 1;omega⟩);simp only[l9.dm,AC,Za3]at hdg;obtain⟨g1,g2⟩:=hdg;have lJ:=WP (Vh l j J (by rw[←fO.out];exact hj));have EK:=WP ek;clear ek;have hi1:(0:Int)≤(j:Int) - 1:=J;have hi2:(j:Int) - 1 < D.size:=J;have hi3:((j:Int) - 1).toNat=j - 1:=J
            go_wp2_with (at_builtin;refine fQ (w0:=w) rfl _ _ _ rfl 3 .i64 8 Tryz.underlying175 kU J _ _ _ _ rfl hown _ (D[j - 1].toNat - 48) J rfl J hb ?_;intro A3 c3 w2 hown2 hb2 _ _ _)
            go_roundw
            case rel=>exact⟨j - 1,c3,m+1,A3,J,J,by go_num,rfl,by have:=Fg.out;omega,by rw[lJ.out,←EK.out];exact hown2,hb2⟩
            case measure=>simp only[intOf];omega
          · obtain rfl:j=0:=J
            go_wp2;go_ret2;refine⟨A2,m,c2,by rw[HN.out.1];rfl,?_,by have:=Fg.out;have:=fO.out;omega,hb⟩
            rw[HN.out.2,←HRv.out,HM.out];exact hown.sl
theorem a6c(B:Nat)(hB:2≤B)(A A':Option Addr)(n c c':Nat)(x y:List Nat)(w:World)(hx:Sl w .i64 A n c x)(hy:Sl w .i64 A' n c' y)(hn:n≤1000000000)
  (hsx:l9.Small B x) (hsy:l9.Small B y) :
  Calls prog 143 #[.slice A n c,.slice A' n c'] w (Cmp (l9.D6 B x) (l9.D6 B y) w):=by
 have hlx:=hx.len;have kG:=hy.len;have HX:=WP hlx;have HY:=WP kG;clear hlx kG
 go_enter func143,ntmps143
 go_wp2
 go_loopw [5] (fun i wr=>∃k q:Nat,k≤n∧i=.int .i64 ((k:Int) - 1)∧Hid (x.drop k=y.drop k)∧wr=w.drewN q) (fun i _=>(intOf i+1).toNat)
 case atStart=>exact⟨n,0,NE _,rfl,(by rw[Zax (by rw[HX.out];exact NE _),Zax (by rw[HY.out];exact NE _)]:x.drop n=y.drop n),rfl⟩
 case round =>
  obtain⟨k,q,hk,rfl,HD,rfl⟩:=hrel;by_cases h0:0 < k
  ·obtain⟨b,o,rfl,hb,hc⟩:=hx.cells J;obtain⟨b',o',rfl,hb',hc'⟩:=hy.cells J;have hcm:=hc (k - 1) J;have hcm':=hc' (k - 1) J;clear hc hc' hb hb';have hi1:(0:Int)≤(k:Int) - 1:=J;have hi2:(k:Int) - 1 < n:=J;have hi3:((k:Int) - 1).toNat=k - 1:=J;generalize hu:x.getD (k - 1) 0=u at hcm;generalize hv:y.getD (k - 1) 0=v at hcm';have HU:=WP hu;have HV:=WP hv;clear hu hv;rcases Nat.lt_trichotomy u v with hlt | heq | hgt
   ·have e2:decide ((u:Int) < v)=true:=by simp;omega
    go_wp2
    go_quiet (fail)
    go_wp2;go_ret;refine⟨?_,a7q _ _ _⟩;rw[pJ (l9.Gt (i:=k - 1) hsx hB (by rw[HX.out];omega) (by rw[HX.out,HY.out]) (by rw[Nat.sub_add_cancel h0];exact HD.out) (by rw[HU.out,HV.out];exact hlt))];rfl
   ·have e2:decide ((u:Int) < v)=false:=by simp;omega
    have e3:decide ((v:Int) < u)=false:=by simp;omega
    go_wp2
    go_quiet (fail)
    go_wp2
    go_quiet (fail)
    go_wp2
    go_roundw
    case rel=>exact⟨k - 1,_,J,by go_num,drop_pred h0 (by rw[HX.out];exact hk) (by rw[HX.out,HY.out]) HD.out (by rw[HU.out,HV.out,heq]),rfl⟩
    case measure=>simp only[intOf];omega
   ·have e2:decide ((u:Int) < v)=false:=by simp;omega
    have e3:decide ((v:Int) < u)=true:=by simp;omega
    go_wp2
    go_quiet (fail)
    go_wp2
    go_quiet (fail)
    go_wp2;go_ret;refine⟨?_,NZ _ _ _ _⟩;rw[pK (l9.Gt (i:=k - 1) hsy hB (by rw[HY.out];omega) (by rw[HX.out,HY.out]) (by rw[Nat.sub_add_cancel h0];exact HD.out.symm) (by rw[HU.out,HV.out];exact hgt))];rfl
  ·have hk0:k=0:=J;subst hk0;go_wp2;go_ret;refine⟨?_,_,rfl⟩;have e:x=y:=by simpa using HD.out
   rw[e,uu];rfl
theorem BR(B:Nat)(hB:2≤B)(A A':Option Addr)(n n' c c' a b:Nat)(w:World)(hx:Sl w .i64 A n c (l9.limbs B a))(hy:Sl w .i64 A' n' c' (l9.limbs B b))(hn:n≤1000000000)(hn':n'≤1000000000) :
  Calls prog 143 #[.slice A n c,.slice A' n' c'] w (Cmp a b w):=by
 rcases Nat.lt_trichotomy n n' with hlt | heq | hgt
 ·have e1:((n:Int) != n')=true:=by rw[bne_iff_ne];omega
  have hv:a < b:=l9.Gp hB (by rw[hx.len,hy.len];exact hlt);have HV:=WP (pJ hv);clear hv hx hy
  go_enter func143,ntmps143
  go_wp2;go_ret;refine⟨?_,0,rfl⟩;rw[HV.out];rfl
 ·subst heq;have:=a6c B hB A A' n c c' _ _ w hx hy hn (l9.Q4 hB a) (l9.Q4 hB b)
  rwa [l9.L8 hB,l9.L8 hB]at this
 ·have e1:((n:Int) != n')=true:=by rw[bne_iff_ne];omega
  have e2:decide (n < n')=false:=by simp;omega
  have hv:b < a:=l9.Gp hB (by rw[hx.len,hy.len];exact hgt);have HV:=WP (pK hv);clear hv hx hy
  go_enter func143,ntmps143
  go_wp2;go_ret;refine⟨?_,0,rfl⟩;rw[HV.out];rfl
def b4Z(K v:Nat)(w:World)(e:Ending)(w':World):Prop:=∃A n c o,e=.returned (.slice A n c)∧n≤K∧Sl w' .i64 A n c o∧l9.Small 10 o∧l9.D6 10 o=v∧Below w.heap.size w w'∧∀b o,A=some ⟨b,o,none⟩→w.heap.size≤b
theorem Ht{l:List Nat}{k n:Nat}(h:l.length=n)(hk:¬k < n):l.getD k 0=0:=by
 rw[bi,Zaf J];rfl
theorem Nc(A A':Option Addr)(n n' c c':Nat)(x y:List Nat)(w:World)(hx:Sl w .i64 A n c x)(hy:Sl w .i64 A' n' c' y)(hn:n≤100000000)(hn':n'≤100000000)
  (hsx:l9.Small 10 x) (hsy:l9.Small 10 y) :
  Calls prog 198 #[.slice A n c,.slice A' n' c'] w (b4Z (max n n'+1) (l9.D6 10 x+l9.D6 10 y) w):=by
 go_enter func198,ntmps198
 go_wp2
 go_loopg [5,6,7] (2 * max n n') (fun gx out cr ix wr=>∃(k:Nat) (A2:Option Addr) (c2:Nat) (o:List Nat) (cy:Nat),k+cy≤max n n'+1∧ix=.int .i64 k∧out=.slice A2 k c2∧cr=.int .i64 cy∧cy≤1∧Own wr w.heap.size 3 .i64 A2 k c2 o∧l9.Small 10 o∧Hid (l9.D6 10 o+10 ^ k * cy=l9.D6 10 (x.take k)+l9.D6 10 (y.take k))∧Below w.heap.size w wr∧2 * (max n n' - k)+cy≤gx)
 case atStart=>exact⟨0,none,0,[],0,J,rfl,rfl,rfl,J,Own.nil _ _ _ _,l9.Small.nil,WP (by simp[l9.D6]),Below.refl _ _,J⟩
 case round =>
  obtain⟨k,A2,c2,o,cy,hk,rfl,rfl,rfl,hcy,hown,hso,HV,hb,hg⟩:=hrel;have HO:=WP hown.len;by_cases hkn:k < n
  ·obtain⟨b,off,rfl,_,hcx⟩:=(hx.below hb).cells J;have bg:=hcx k hkn;clear hcx;have hu:=getD_lt (l:=x) hsx J k;by_cases kH:k < n'
   ·obtain⟨b',off',rfl,_,dZ⟩:=(hy.below hb).cells J;have hcv:=dZ k kH;clear dZ;have hv:=getD_lt (l:=y) hsy J k;have HR:=WP (l9.uf (B:=10) (a:=x) (b:=y) (n:=cy+x.getD k 0+y.getD k 0) HO.out HV.out J);generalize x.getD k 0=u at bg hu HR;generalize y.getD k 0=v at hcv hv HR
    go_wp2_with (at_builtin;refine fQ (w0:=w) rfl _ _ _ rfl 3 .i64 8 Tryz.underlying175 kU J _ _ _ o rfl hown _ ((cy+u+v) % 10) J rfl J hb ?_;intro A3 c3 w2 hown2 hb2 _ _ _)
    go_roundg (2 * (max n n' - (k+1))+(cy+u+v) / 10)
    case measure=>omega
    case rel=>exact⟨k+1,A3,c3,o++[(cy+u+v) % 10],(cy+u+v) / 10,J,by go_num,rfl,by go_num,J,hown2,hso.append (l9.Small.cons J l9.Small.nil),HR,hb2,NE _⟩
   ·have hv:=Ht hy.len kH;have HR:=WP (l9.uf (B:=10) (a:=x) (b:=y) (n:=cy+x.getD k 0) HO.out HV.out J);clear hv;generalize x.getD k 0=u at bg hu HR
    go_wp2_with (at_builtin;refine fQ (w0:=w) rfl _ _ _ rfl 3 .i64 8 Tryz.underlying175 kU J _ _ _ o rfl hown _ ((cy+u) % 10) J rfl J hb ?_;intro A3 c3 w2 hown2 hb2 _ _ _)
    go_roundg (2 * (max n n' - (k+1))+(cy+u) / 10)
    case measure=>omega
    case rel=>exact⟨k+1,A3,c3,o++[(cy+u) % 10],(cy+u) / 10,J,by go_num,rfl,by go_num,J,hown2,hso.append (l9.Small.cons J l9.Small.nil),HR,hb2,NE _⟩
  ·have hu:=Ht hx.len hkn;by_cases kH:k < n'
   ·obtain⟨b',off',rfl,_,dZ⟩:=(hy.below hb).cells J;have hcv:=dZ k kH;clear dZ;have hv:=getD_lt (l:=y) hsy J k;have HR:=WP (l9.uf (B:=10) (a:=x) (b:=y) (n:=cy+y.getD k 0) HO.out HV.out J);clear hu;generalize y.getD k 0=v at hcv hv HR
    go_wp2_with (at_builtin;refine fQ (w0:=w) rfl _ _ _ rfl 3 .i64 8 Tryz.underlying175 kU J _ _ _ o rfl hown _ ((cy+v) % 10) J rfl J hb ?_;intro A3 c3 w2 hown2 hb2 _ _ _)
    go_roundg (2 * (max n n' - (k+1))+(cy+v) / 10)
    case measure=>omega
    case rel=>exact⟨k+1,A3,c3,o++[(cy+v) % 10],(cy+v) / 10,J,by go_num,rfl,by go_num,J,hown2,hso.append (l9.Small.cons J l9.Small.nil),HR,hb2,NE _⟩
   ·have hv:=Ht hy.len kH;have HR:=WP (l9.uf (B:=10) (a:=x) (b:=y) (n:=cy) HO.out HV.out J);clear hu hv;have HX:Hid (x.take k=x):=WP (Zae (by rw[hx.len];omega));have HY:Hid (y.take k=y):=WP (Zae (by rw[hy.len];omega));by_cases hc0:0 < cy
    ·obtain rfl:cy=1:=J;have HF:Hid (l9.D6 10 (o++[1 % 10])+10 ^ (k+1) * (1 / 10)=l9.D6 10 (x.take (k+1))+l9.D6 10 (y.take (k+1))):=HR
     go_wp2_with (at_builtin;refine fQ (w0:=w) rfl _ _ _ rfl 3 .i64 8 Tryz.underlying175 kU J _ _ _ o rfl hown _ 1 J rfl J hb ?_;intro A3 c3 w2 hown2 hb2 _ _ _)
     go_roundg 0
     case measure=>omega
     case rel=>exact⟨k+1,A3,c3,o++[1],0,J,by go_num,rfl,rfl,J,hown2,hso.append (l9.Small.cons J l9.Small.nil),HF,hb2,J⟩
    ·obtain rfl:cy=0:=J;have HF:Hid (l9.D6 10 o=l9.D6 10 x+l9.D6 10 y):=by
      have h:=HV.out;rw[HX.out,HY.out]at h;show _=_;omega
     go_wp2;go_ret;exact⟨A2,k,c2,o,rfl,J,hown.sl,hso,HF.out,hb,hown.fresh⟩
theorem tZ(A A':Option Addr)(n n' c c':Nat)(x y:List Nat)(w:World)(hx:Sl w .i64 A n c x)(hy:Sl w .i64 A' n' c' y)(hn:n≤100000000)(hnn:n'≤n)
  (hsx:l9.Small 10 x) (hsy:l9.Small 10 y) (hle:l9.D6 10 y≤l9.D6 10 x) :
  Calls prog 144 #[.slice A n c,.slice A' n' c'] w (ik .i64 (l9.limbs 10 (l9.D6 10 x - l9.D6 10 y)) w):=by
 go_enter func144,ntmps144
 go_wp2
 go_loopw [5,6,7] (fun out br ix wr=>∃(k:Nat) (A2:Option Addr) (c2:Nat) (o:List Nat) (bw:Nat),k≤n∧ix=.int .i64 k∧out=.slice A2 k c2∧br=.int .i64 bw∧bw≤1∧Own wr w.heap.size 3 .i64 A2 k c2 o∧l9.Small 10 o∧Hid (l9.D6 10 (x.take k)+10 ^ k * bw=l9.D6 10 o+l9.D6 10 (y.take k))∧Below w.heap.size w wr) (fun _ _ ix _=>n - (intOf ix).toNat)
 case atStart=>exact⟨0,none,0,[],0,J,rfl,rfl,rfl,J,Own.nil _ _ _ _,l9.Small.nil,WP (by simp[l9.D6]),Below.refl _ _⟩
 case round =>
  obtain⟨k,A2,c2,o,bw,hk,rfl,rfl,rfl,hbw,hown,hso,HV,hb⟩:=hrel;have HO:=WP hown.len;by_cases hkn:k < n
  ·obtain⟨b,off,rfl,_,hcx⟩:=(hx.below hb).cells J;have bg:=hcx k hkn;clear hcx;have hu:=getD_lt (l:=x) hsx J k;have HR:=fun d t=>WP (l9.MZ (B:=10) (a:=x) (b:=y) (d:=d) (n:=t) HO.out HV.out)
   by_cases kH:k < n'
   ·obtain⟨b',off',rfl,_,dZ⟩:=(hy.below hb).cells J;have hcv:=dZ k kH;clear dZ;have hv:=getD_lt (l:=y) hsy J k;generalize x.getD k 0=u at bg hu HR;generalize y.getD k 0=v at hcv hv HR;by_cases hneg:(u:Int) - bw - v < 0
    ·have HR1:=WP ((HR 1 (u+10 - bw - v)).out J);clear HR
     go_wp2_with (at_builtin;refine fQ (w0:=w) rfl _ _ _ rfl 3 .i64 8 Tryz.underlying175 kU J _ _ _ o rfl hown _ (u+10 - bw - v) J rfl J hb ?_;intro A3 c3 w2 hown2 hb2 _ _ _)
     go_roundw
     case rel=>exact⟨k+1,A3,c3,o++[u+10 - bw - v],1,J,by go_num,rfl,rfl,J,hown2,hso.append (l9.Small.cons J l9.Small.nil),HR1,hb2⟩
     case measure=>simp only[intOf];omega
    ·have HR1:=WP ((HR 0 (u - bw - v)).out J);clear HR
     go_wp2_with (at_builtin;refine fQ (w0:=w) rfl _ _ _ rfl 3 .i64 8 Tryz.underlying175 kU J _ _ _ o rfl hown _ (u - bw - v) J rfl J hb ?_;intro A3 c3 w2 hown2 hb2 _ _ _)
     go_roundw
     case rel=>exact⟨k+1,A3,c3,o++[u - bw - v],0,J,by go_num,rfl,rfl,J,hown2,hso.append (l9.Small.cons J l9.Small.nil),HR1,hb2⟩
     case measure=>simp only[intOf];omega
   ·have hv:=Ht hy.len kH;rw[hv]at HR;clear hv;generalize x.getD k 0=u at bg hu HR;by_cases hneg:(u:Int) - bw < 0
    ·have HR1:=WP ((HR 1 (u+10 - bw)).out J);clear HR
     go_wp2_with (at_builtin;refine fQ (w0:=w) rfl _ _ _ rfl 3 .i64 8 Tryz.underlying175 kU J _ _ _ o rfl hown _ (u+10 - bw) J rfl J hb ?_;intro A3 c3 w2 hown2 hb2 _ _ _)
     go_roundw
     case rel=>exact⟨k+1,A3,c3,o++[u+10 - bw],1,J,by go_num,rfl,rfl,J,hown2,hso.append (l9.Small.cons J l9.Small.nil),HR1,hb2⟩
     case measure=>simp only[intOf];omega
    ·have HR1:=WP ((HR 0 (u - bw)).out J);clear HR
     go_wp2_with (at_builtin;refine fQ (w0:=w) rfl _ _ _ rfl 3 .i64 8 Tryz.underlying175 kU J _ _ _ o rfl hown _ (u - bw) J rfl J hb ?_;intro A3 c3 w2 hown2 hb2 _ _ _)
     go_roundw
     case rel=>exact⟨k+1,A3,c3,o++[u - bw],0,J,by go_num,rfl,rfl,J,hown2,hso.append (l9.Small.cons J l9.Small.nil),HR1,hb2⟩
     case measure=>simp only[intOf];omega
  ·have hkk:k=n:=J;subst hkk;have HF:Hid (l9.D6 10 o=l9.D6 10 x - l9.D6 10 y):=by
    have h:=HV.out;rw[Zae (by rw[hx.len];omega),Zae (by rw[hy.len];omega)]at h;have hlt:=l9.mf (B:=10) J hso;rw[HO.out]at hlt;show _=_;rcases Zas bw with e | e
    ·subst e;omega
    ·obtain rfl:bw=1:=J;omega
   have hsl:=hown.sl
   go_wp2_with fail
   refine (BN _ _ _ _ _ hsl J).mono ?_;rintro e w' ⟨rfl,rfl⟩;go_wp2;go_ret;refine⟨_,_,_,rfl,?_,hb,hown.fresh⟩;have:=hsl.trimmed (B:=10) J hso;rw[HF.out]at this;exact this
theorem Sl.str{P:Program}{w:World}{A:Option Addr}{n c:Nat}{l:List Nat}(h:Sl w .u8 A n c l)(hn:0 < n)(src e dst:TypeId)(hs:P.underlying src=some (.slice e))(he:P.underlying e=some (.int .u8))(hd:P.underlying dst=some .string) :
  (convert src dst (.slice A n c)).run P w=.ok (.string ⟨(l.map UInt8.ofNat).toArray⟩) w:=by
 obtain⟨b,o,rfl,_,hc⟩:=h.cells hn;have:=run_convert_bytes_arg (P:=P) w src e hs he b o n c (l.map fun (x:Nat)=>(x:Int)) (by rw[EQ,h.len]) (fun i hi=>by
  rw[hc i hi,bi,bi,Zag,Za2 (by rw[h.len];exact hi)];rfl) dst hd
 rw[this];simp[strOfNums]
theorem VF(ng:Bool){v:Nat}(hv:v≠0):((if ng then [45] else [])++((l9.limbs 10 v).drop 0).reverse.map (fun d=>48+d)).map UInt8.ofNat=dF ng v:=by
 unfold dF;rw[Ws ng hv,ZaL,Zb5,List.map_map,←l9.a4u hv];cases ng <;> rfl
theorem Xm{l:List Nat}{j:Nat}(h0:0 < j)(hj:j≤l.length):((l.drop (j - 1)).reverse.map fun d=>48+d)=((l.drop j).reverse.map fun d=>48+d)++[48+l.getD (j - 1) 0]:=by
 obtain⟨m,rfl⟩:∃m,j=m+1:=⟨j - 1,J⟩;rw[Zb7,ZaT J,List.reverse_cons,ZaL,bi,Za2 J];rfl
theorem BO(ng:Bool)(A:Option Addr)(n c:Nat)(x:List Nat)(w:World)(hx:Sl w .i64 A n c x)(hn:n≤100000000)(hs:l9.Small 10 x) :
  Calls prog 108 #[.bool ng,.slice A n c] w (dG (dF ng (l9.D6 10 x)) w):=by
 have HT:=WP (BN A n c x w hx J);have hsl:=hx.trimmed (B:=10) J hs;have htl:=yI x;have hxl:=hx.len;have HL:=WP hsl.len;generalize (l9.au x).length=m at HT hsl htl HL;generalize l9.D6 10 x=v at hsl HL;have hm:m≤100000000:=J;clear htl hxl;by_cases h0:v=0
 ·subst h0;have hm0:m=0:=by rw[←HL.out];rfl
  subst hm0;rw[Gz]
  go_enter func108,ntmps108
  go_wp2_with fail
  refine HT.out.mono ?_;rintro e w' ⟨rfl,rfl⟩;go_wp2;go_ret;exact⟨rfl,Below.refl _ _⟩
 ·have hmp:0 < m:=by
   rcases Zas m with e | e
   ·exact absurd ((l9.qR (B:=10) J).1 (Za9 (by rw[HL.out];exact e))) h0
   ·exact e
  have hm0:((m:Int) == 0)=false:=by rw[IR];omega
  have HF:=WP h0;clear h0;have hsm:=l9.Q4 (B:=10) J v;cases ng with
  |true =>
   have HG:Hid (([45]++((l9.limbs 10 v).drop 0).reverse.map (fun d=>48+d)).map UInt8.ofNat=dF true v):=VF true HF.out
   go_enter func108,ntmps108
   go_wp2_with fail
   refine HT.out.mono ?_;rintro e w' ⟨rfl,rfl⟩
   go_wp2_with (at_builtin;refine fQ (w0:=w) rfl _ _ _ rfl 5 .u8 1 Tryz.underlying209 infoByte J _ _ _ [] rfl (Own.nil _ _ _ _) _ 45 J rfl J (Below.refl _ _) ?_;intro A1 c1 w1 hown1 hb1 _ _ _)
   go_loopw [5,6] (fun out ix wr=>∃(j c2:Nat) (A2:Option Addr),j≤m∧ix=.int .i64 ((j:Int) - 1)∧out=.slice A2 (1+(m - j)) c2∧Own wr w.heap.size 5 .u8 A2 (1+(m - j)) c2 ([45]++((l9.limbs 10 v).drop j).reverse.map (fun d=>48+d))∧Below w.heap.size w wr) (fun _ ix _=>(intOf ix+1).toNat)
   case atStart=>exact⟨m,c1,A1,NE _,rfl,by rw[Zbl],by rw[Zbl,Zax (by rw[HL.out];exact NE _)];exact hown1,hb1⟩
   case round =>
    obtain⟨j,c2,A2,hj,rfl,rfl,hown,hb⟩:=hrel;by_cases hj0:0 < j
    ·obtain⟨b,o,rfl,_,hcx⟩:=(hsl.below hb).cells J;have bg:=hcx (j - 1) J;clear hcx;have hu:=getD_lt hsm J (j - 1);have HR:=WP (Xm (l:=l9.limbs 10 v) hj0 (by rw[HL.out];exact hj));generalize (l9.limbs 10 v).getD (j - 1) 0=u at bg hu HR;have hi1:(0:Int)≤(j:Int) - 1:=J;have hi2:(j:Int) - 1 < m:=J;have hi3:((j:Int) - 1).toNat=j - 1:=J;have hw8:IntKind.u8.wrap (48+(u:Int))=48+u:=by rw[IntKind.wrap_u8];omega
     go_wp2_with (at_builtin;refine fQ (w0:=w) rfl _ _ _ rfl 5 .u8 1 Tryz.underlying209 infoByte J _ _ _ _ rfl hown _ (48+u) J rfl J hb ?_;intro A3 c3 w2 hown2 hb2 _ _ _)
     go_roundw
     case rel=>exact⟨j - 1,c3,A3,J,by go_num,by congr 1;omega,by rw[HR.out,←Zah,show 1+(m - (j - 1))=1+(m - j)+1 by omega];exact hown2,hb2⟩
     case measure=>simp only[intOf];omega
    ·have hjz:j=0:=J;subst hjz;have hst:=hown.sl.str (P:=prog) J 209 5 9 Tryz.underlying209 Tryz.underlying5 Tryz.underlying9;rw[HG.out]at hst;obtain⟨S,hS⟩:∃S:ByteArray,S=⟨(dF true v).toArray⟩:=⟨_,rfl⟩;rw[←hS]at hst;have HS:=WP hS;clear hS;simp only[Nat.sub_zero]at hst;go_wp2;go_ret;exact⟨by rw[←HS.out];rfl,hb⟩
  |false =>
   have HG:Hid (([]++((l9.limbs 10 v).drop 0).reverse.map (fun d=>48+d)).map UInt8.ofNat=dF false v):=VF false HF.out
   go_enter func108,ntmps108
   go_wp2_with fail
   refine HT.out.mono ?_;rintro e w' ⟨rfl,rfl⟩;go_wp2
   go_loopw [5,6] (fun out ix wr=>∃(j c2:Nat) (A2:Option Addr),j≤m∧ix=.int .i64 ((j:Int) - 1)∧out=.slice A2 (m - j) c2∧Own wr w.heap.size 5 .u8 A2 (m - j) c2 ([]++((l9.limbs 10 v).drop j).reverse.map (fun d=>48+d))∧Below w.heap.size w wr) (fun _ ix _=>(intOf ix+1).toNat)
   case atStart=>exact⟨m,0,none,NE _,rfl,by rw[Zbl],by rw[Zbl,Zax (by rw[HL.out];exact NE _)];exact Own.nil _ _ _ _,Below.refl _ _⟩
   case round =>
    obtain⟨j,c2,A2,hj,rfl,rfl,hown,hb⟩:=hrel;by_cases hj0:0 < j
    ·obtain⟨b,o,rfl,_,hcx⟩:=(hsl.below hb).cells J;have bg:=hcx (j - 1) J;clear hcx;have hu:=getD_lt hsm J (j - 1);have HR:=WP (Xm (l:=l9.limbs 10 v) hj0 (by rw[HL.out];exact hj));generalize (l9.limbs 10 v).getD (j - 1) 0=u at bg hu HR;have hi1:(0:Int)≤(j:Int) - 1:=J;have hi2:(j:Int) - 1 < m:=J;have hi3:((j:Int) - 1).toNat=j - 1:=J;have hw8:IntKind.u8.wrap (48+(u:Int))=48+u:=by rw[IntKind.wrap_u8];omega
     go_wp2_with (at_builtin;refine fQ (w0:=w) rfl _ _ _ rfl 5 .u8 1 Tryz.underlying209 infoByte J _ _ _ _ rfl hown _ (48+u) J rfl J hb ?_;intro A3 c3 w2 hown2 hb2 _ _ _)
     go_roundw
     case rel=>exact⟨j - 1,c3,A3,J,by go_num,by congr 1;omega,by rw[HR.out,←Zah,show m - (j - 1)=m - j+1 by omega];exact hown2,hb2⟩
     case measure=>simp only[intOf];omega
    ·have hjz:j=0:=J;subst hjz;have hst:=hown.sl.str (P:=prog) J 209 5 9 Tryz.underlying209 Tryz.underlying5 Tryz.underlying9;rw[HG.out]at hst;obtain⟨S,hS⟩:∃S:ByteArray,S=⟨(dF false v).toArray⟩:=⟨_,rfl⟩;rw[←hS]at hst;have HS:=WP hS;clear hS;simp only[Nat.sub_zero]at hst;go_wp2;go_ret;exact⟨by rw[←HS.out];rfl,hb⟩
theorem a6M{u v:Nat}(hu:u < 10)(hv:v < 10):(0:Int)≤(u:Int) * v∧(u:Int) * v≤81:=by
 have h:u * v≤9 * 9:=Nat.mul_le_mul J J;have e:((u * v:Nat):Int)=(u:Int) * v:=by rw[Int.natCast_mul]
 omega
theorem a6d{z u v c:Nat}:((z:Int)+c+(u:Int) * v) % 10=(((z+u * v+c) % 10:Nat):Int):=by
 rw[Int.natCast_emod,Int.natCast_add,Int.natCast_add,Int.natCast_mul];congr 1;omega
theorem a6e{z u v c:Nat}:((z:Int)+c+(u:Int) * v) / 10=(((z+u * v+c) / 10:Nat):Int):=by
 rw[Int.natCast_ediv,Int.natCast_add,Int.natCast_add,Int.natCast_mul];congr 1;omega
theorem a5f(A A':Option Addr)(n n' c c':Nat)(x y:List Nat)(w:World)(hx:Sl w .i64 A n c x)(hy:Sl w .i64 A' n' c' y)(hn:n≤100000000)(hn':n'≤100000000)
  (hsx:l9.Small 10 x) (hsy:l9.Small 10 y) :
  Calls prog 231 #[.slice A n c,.slice A' n' c'] w (ik .i64 (l9.limbs 10 (l9.D6 10 x * l9.D6 10 y)) w):=by
 go_enter func231,ntmps231
 go_wp2_with (at_make;refine Cb (w0:=w) rfl _ _ _ rfl 3 .i64 8 Tryz.underlying175 kU J _ _ _ _ (n+n'+1) rfl rfl J J J (Below.refl _ _) ?_;intro w1 hown1 hb1 _ _)
 go_loopw [6] (fun ix wr=>∃(k:Nat) (L:List Nat),k≤n∧ix=.int .i64 k∧Own wr w.heap.size 3 .i64 (some ⟨w.heap.size,0,none⟩) (n+n'+1) (n+n'+1) L∧l9.Small 10 L∧Hid (l9.D6 10 L=l9.D6 10 (x.take k) * l9.D6 10 y)∧Hid (∀j,k+n'≤j→L.getD j 0=0)∧Below w.heap.size w wr) (fun ix _=>n - (intOf ix).toNat)
 case atStart=>exact⟨0,_,ww _,rfl,hown1,Gq _ _ J,(by rw[UM,List.take_zero];simp[l9.D6]:l9.D6 10 (List.replicate (n+n'+1) 0)=l9.D6 10 (x.take 0) * l9.D6 10 y),(fun j _=>MJ _ j:∀j,0+n'≤j→(List.replicate (n+n'+1) 0).getD j 0=0),hb1⟩
 case round =>
  obtain⟨k,L,hk,rfl,hown,hsL,HV,HZ,hb⟩:=hrel;obtain⟨wo,rfl⟩:∃wo:World,wo=wr:=⟨_,rfl⟩;by_cases hkn:k < n
  ·obtain⟨b,off,rfl,_,hcx⟩:=hx.cells J;clear hcx;have hu:=getD_lt (l:=x) hsx J k;have HT:=WP (l9.Vm (B:=10) (a:=x) (b:=y) (i:=k) HV.out);generalize hu0:x.getD k 0=u at hu HT;have EW:=WP hu0;clear hu0;go_wp2
   go_loopw [7,8] (fun cr jx wr=>∃(m cy:Nat) (M:List Nat),m≤n'+1∧jx=.int .i64 m∧cr=.int .i64 cy∧cy < 10∧(m=n'+1→cy=0)∧Own wr w.heap.size 3 .i64 (some ⟨w.heap.size,0,none⟩) (n+n'+1) (n+n'+1) M∧l9.Small 10 M∧Hid (l9.D6 10 M+10 ^ (k+m) * cy=l9.D6 10 L+10 ^ k * (u * l9.D6 10 (y.take m)))∧Hid (∀j,k+n'≤j→k+m≤j→M.getD j 0=0)∧Below w.heap.size w wr) (fun _ jx _=>n'+1 - (intOf jx).toNat)
   case atStart=>exact⟨0,0,L,ww _,rfl,rfl,J,J,hown,hsL,(by simp[l9.D6]:l9.D6 10 L+10 ^ (k+0) * 0=l9.D6 10 L+10 ^ k * (u * l9.D6 10 (y.take 0))),(fun j hj _=>HZ.out j hj:∀j,k+n'≤j→k+0≤j→L.getD j 0=0),hb⟩
   case round =>
    obtain⟨m,cy,M,hm,rfl,rfl,hcy,hmc,lq,hsM,HM,rZ,su⟩:=hrel;have HMC:=WP hmc;clear hmc;have HLM:=WP lq.len;by_cases hmn:m < n'
    ·obtain⟨b',off',rfl,_,dZ⟩:=(hy.below su).cells J;have hcv:=dZ m hmn;clear dZ;obtain⟨b2,c1X,e2,_,hcx⟩:=(hx.below su).cells J;have bg:=hcx k hkn;rw[EW.out]at bg;injection e2 with e2
     injection e2 with e21 e22
     subst e21 e22;clear hcx;have hv:=getD_lt (l:=y) hsy J m;obtain⟨hco,hfo,_,hgl⟩:=lq.cellAt (i:=k+m) J;have hz:=getD_lt (l:=M) hsM J (k+m);have HR:=WP (l9.Vl (B:=10) (o:=M) (b:=y) (x:=u) (i:=k) (j:=m) (by rw[HLM.out];omega) HM.out rfl rfl);generalize M.getD (k+m) 0=z at hco hz HR;generalize y.getD m 0=v at hcv hv HR;obtain⟨hp1,hp2⟩:=a6M hu hv;have hfit:=l9.Vx (B:=10) J hz hu hv hcy;have v1:IntKind.i64.wrap ((u:Int) * v)=(u:Int) * v:=IntWalk.i64_in _ J;have v2:IntKind.i64.wrap ((z:Int)+cy+(u:Int) * v)=(z:Int)+cy+(u:Int) * v:=IntWalk.i64_in _ J
     go_upto_region 11 with (fail)
     go_quiet (fail)
     clear v1 v2;go_wp2
     go_roundw
     case rel =>
      refine⟨m+1,(z+u * v+cy) / 10,M.set (k+m) ((z+u * v+cy) % 10),J,by go_num,?_,J,J,(lq.drewN _).setInt ?_ rfl,hsM.set J,HR.out,(fun j hj hj2=>by rw[getD_set_ne _ _ _ _ J];exact rZ.out j hj J:∀j,k+n'≤j→k+(m+1)≤j→(M.set (k+m) ((z+u * v+cy) % 10)).getD j 0=0),(below_drewN su _).setCell (p:=⟨w.heap.size,k+m,none⟩) (NE _) _⟩
      ·rw[a6e]
      ·rw[a6d]
     case measure=>simp only[intOf];omega
    ·by_cases hc0:0 < cy
     ·have hmm:m=n':=by
       rcases Zai n' m with h | h
       ·have:=HMC.out J;omega
       ·omega
      subst hmm;obtain⟨hco,hfo,_,hgl⟩:=lq.cellAt (i:=k+m) J;have HR:Hid (l9.D6 10 (M.set (k+m) cy)+10 ^ (k+(m+1)) * 0=l9.D6 10 L+10 ^ k * (u * l9.D6 10 (y.take (m+1)))):=by
       have kG:=hy.len;subst kG;have h:=l9.Wi (B:=10) (s:=l9.D6 10 L) (by rw[HLM.out];omega) (rZ.out _ (NE _) (NE _)) HM.out;show _=_;rw[Zae J,Nat.mul_zero,Nat.add_zero];exact h
      rw[rZ.out _ (NE _) (NE _)]at hco;go_wp2
      go_roundw
      case rel =>
       refine⟨m+1,0,M.set (k+m) cy,J,by go_num,?_,J,fun _=>rfl,lq.setInt ?_ rfl,hsM.set hcy,HR.out,(fun j hj hj2=>by rw[getD_set_ne _ _ _ _ J];exact rZ.out j hj J:∀j,k+m≤j→k+(m+1)≤j→(M.set (k+m) cy).getD j 0=0),su.setCell (p:=⟨w.heap.size,k+m,none⟩) (NE _) _⟩
       ·congr 1;omega
       ·omega
      case measure=>simp only[intOf];omega
     ·have hcz:cy=0:=J;subst hcz;have HR:Hid (l9.D6 10 M=l9.D6 10 (x.take (k+1)) * l9.D6 10 y):=by
       have h:=HM.out;rw[Zae (by rw[hy.len];omega),Nat.mul_zero,Nat.add_zero]at h;exact h.trans HT.out
      go_wp2
      go_roundw
      case rel=>exact⟨k+1,M,J,by go_num,lq,hsM,HR.out,(fun j hj=>rZ.out j J J:∀j,k+1+n'≤j→M.getD j 0=0),su⟩
      case measure=>simp only[intOf];omega
  ·have hkk:k=n:=J;subst hkk;have hsl:=hown.sl
   go_wp2_with fail
   refine (BN _ _ _ _ _ hsl J).mono ?_;rintro e w' ⟨rfl,rfl⟩;go_wp2;go_ret;refine⟨_,_,_,rfl,?_,hb,hown.fresh⟩;have:=hsl.trimmed (B:=10) J hsL;rw[HV.out,Zae (by rw[hx.len];omega)]at this;exact this
theorem a5C(u R:Nat):l9.D6 10 ([u]++l9.limbs 10 R)=u+10 * R:=by
 show u+10 * l9.D6 10 (l9.limbs 10 R)=_;rw[l9.L8 J]
theorem a5g{u:Nat}(hu:u < 10)(R:Nat):l9.Small 10 ([u]++l9.limbs 10 R):=l9.Small.cons hu (l9.Q4 J R)
theorem a6f{a b R u j:Nat}{q:List Nat}(hj:0 < j)(hja:j≤(l9.limbs 10 a).length)(hjq:j≤q.length)(hu:(l9.limbs 10 a).getD (j - 1) 0=u)
  (h:l9.D6 10 ((l9.limbs 10 a).drop j)=l9.D6 10 (q.drop j) * b+R) :
  l9.D6 10 ((l9.limbs 10 a).drop (j - 1))=l9.D6 10 ((q.set (j - 1) ((u+10 * R) / b)).drop (j - 1)) * b+(u+10 * R) % b:=by
 obtain⟨m,rfl⟩:∃m,j=m+1:=⟨j - 1,J⟩;rw[Zb7]at hu ⊢
 rw[set_drop _ _ _ J,l9.uh _ _ m J,hu,l9.D6];exact l9.Wj h
def a96(a b:Nat)(w:World)(e:Ending)(w':World):Prop :=
 ∃A n c A' n' c',e=.returned (.tuple #[.slice A n c,.slice A' n' c'])∧Sl w' .i64 A n c (l9.limbs 10 (a / b))∧Sl w' .i64 A' n' c' (l9.limbs 10 (a % b))∧Below w.heap.size w w'
theorem a7K{q:List Nat}{i:Nat}(hz:q.getD i 0=0):q.set i 0=q:=by
 apply List.ext_getElem?;intro k;by_cases h:i=k
 ·subst h;by_cases hi:i < q.length
  ·rw[List.getElem?_set_self hi,Za2 hi];rw[bi,Za2 hi]at hz;simpa using hz.symm
  ·rw[Zaf (by simpa using hi),Zaf J]
 ·rw[List.getElem?_set_ne h]
theorem a5D{wr w2:World}{o:Obj}(hblk:∀g,g < (wr.alloc o).heap.size→(some ⟨wr.heap.size,0,none⟩:Option Addr)≠some ⟨g,0,none⟩→w2.heap[g]?=(wr.alloc o).heap[g]?)(hsz:(wr.alloc o).heap.size≤w2.heap.size)
    (hos:w2.os=(wr.alloc o).os) (htp:w2.tape=(wr.alloc o).tape) (hou:w2.output=(wr.alloc o).output):Below wr.heap.size wr w2 :=
  ⟨hos,htp,hou,by
                     have:(wr.alloc o).heap.size=wr.heap.size+1:=I;omega,fun g hg=>(hblk g (by simp;omega) (by intro e;injection e with e;injection e with e;omega)).trans (Below.heap_alloc wr _ g hg)⟩
theorem a6N{R' R2 b t:Nat}(hb0:0 < b)(h:R2+t * b=R')(hlt:R2 < b):t=R' / b∧R2=R' % b:=by
 subst h;exact⟨by rw[Nat.add_mul_div_right _ _ hb0,Nat.div_eq_of_lt hlt,ZaH],by rw[Nat.add_mul_mod_self_right,Nat.mod_eq_of_lt hlt]⟩
theorem set_set(q:List Nat)(i x y:Nat):(q.set i x).set i y=q.set i y:=List.set_set x
theorem a4S{q:List Nat}{i x:Nat}(h:i < q.length):(q.set i x).getD i 0=x:=by
 rw[bi,List.getElem?_set_self h];rfl
theorem BP(A A':Option Addr)(n n' c c' a b:Nat)(w:World)(hx:Sl w .i64 A n c (l9.limbs 10 a))(hy:Sl w .i64 A' n' c' (l9.limbs 10 b))(hn:n≤2500000)(hn':n'≤2500000)(hb0:0 < b) :
  Calls prog 107 #[.slice A n c,.slice A' n' c'] w (a96 a b w):=by
 have EU:=WP hx.len;have KE:=WP hy.len
 go_enter func107,ntmps107
 go_wp2_with (at_make;refine Cb (w0:=w) rfl _ _ _ rfl 3 .i64 8 Tryz.underlying175 kU J _ _ _ _ n rfl rfl J J J (Below.refl _ _) ?_;intro w1 hown1 hb1 hbW1 hsz1)
 go_loopw [7,8] (fun rv ix wr=>∃(j R nr cr:Nat) (Ar:Option Addr) (q:List Nat),j≤n∧ix=.int .i64 ((j:Int) - 1)∧rv=.slice Ar nr cr∧Sl wr .i64 Ar nr cr (l9.limbs 10 R)∧Hid (∀b o,Ar=some ⟨b,o,none⟩→b≠w.heap.size)∧R < b∧Own wr w.heap.size 3 .i64 (some ⟨w.heap.size,0,none⟩) n n q∧l9.Small 10 q∧Hid (∀i,i < j→q.getD i 0=0)∧Hid (l9.D6 10 ((l9.limbs 10 a).drop j)=l9.D6 10 (q.drop j) * b+R)∧Below w.heap.size w wr) (fun _ ix _=>(intOf ix+1).toNat)
 case atStart =>
  refine⟨n,0,0,0,none,List.replicate n 0,NE _,rfl,rfl,Sl.nil _ _ _ _,WP (fun _ _ e=>by cases e),hb0,hown1,Gq _ _ J,WP (fun i _=>MJ n i),WP ?_,hb1⟩;rw[Zax (by rw[EU.out];exact NE _),Zax I];simp[l9.D6]
 case round =>
  obtain⟨j,R,nr,cr,Ar,q,hj,rfl,rfl,sD,HA,hR,hown,Be,HZ,HV,hb⟩:=hrel;obtain⟨wo,rfl⟩:∃wo:World,wo=wr:=⟨_,rfl⟩;have Bf:=WP sD.len;have hnr:nr≤n':=by
   rw[←Bf.out,←KE.out];exact l9.cu J J
  by_cases hj0:0 < j
  ·obtain⟨bx,ox,rfl,hbx,hcx⟩:=(hx.below hb).cells J;have bg:=hcx (j - 1) J;clear hcx;have hu:=getD_lt (l:=l9.limbs 10 a) (l9.Q4 J a) J (j - 1);generalize hu0:(l9.limbs 10 a).getD (j - 1) 0=u at bg hu;have EW:=WP hu0;clear hu0;have HQL:=WP hown.len;have HST:=WP (a6f (b:=b) hj0 (by rw[EU.out];exact hj) (by rw[HQL.out];exact hj) EW.out HV.out);have hdg:(u+10 * R) / b < 10:=l9.Wl hu hR;obtain⟨R',hR'⟩:∃R',R'=u+10 * R:=⟨_,rfl⟩;rw[←hR']at HST hdg;have HR':=WP hR';clear hR';have hi1:(0:Int)≤(j:Int) - 1:=J;have hi2:(j:Int) - 1 < n:=J;have hi3:((j:Int) - 1).toNat=j - 1:=J;have EY:Own (wo.alloc (.cells #[.int .i64 (u:Int)] 3)) wo.heap.size 3 .i64 (some ⟨wo.heap.size,0,none⟩) 1 1 [u]:=⟨⟨rfl,.inr ⟨wo.heap.size,1,#[.int .i64 (u:Int)],rfl,NE _,heap_alloc_new wo _,NE _,by unfold maxLen;omega,rfl,rfl⟩⟩⟩;have hsW:Sl (wo.alloc (.cells #[.int .i64 (u:Int)] 3)) .i64 Ar nr cr (l9.limbs 10 R):=sD.alloc _
   go_wp2_with (at_builtin;refine a5y rfl _ _ _ rfl wo.heap.size 3 .i64 8 Tryz.underlying175 kU J _ _ _ [u] rfl EY _ _ _ _ rfl hsW J I ?_;intro A2 kJ w2 hown2 hblk2 hsz2 Eo Ep Et)
   have hbw2:=a5D hblk2 hsz2 Eo Ep Et;clear hblk2 hsz2 Eo Ep Et;refine (BN A2 (1+nr) kJ _ w2 hown2.sl J).mono ?_;rintro e w3 ⟨rfl,rfl⟩;have hsl2:=hown2.sl.trimmed (B:=10) J (a5g hu R);rw[a5C,←HR'.out]at hsl2;have hfr:=hown2.fresh;have hq1:=(hown.lt rfl).2;have htl:=yI ([u]++l9.limbs 10 R);rw[Za4,Bf.out,Zaw]at htl;generalize (l9.au ([u]++l9.limbs 10 R)).length=n2 at hsl2 htl;have hw2:=hb.trans (hbw2.mono hb.size);have zY:=hown.below hbw2;have HQ0:=WP (a7K (HZ.out (j - 1) J));rw[←HQ0.out]at zY;have HA2:Hid (∀b o,A2=some ⟨b,o,none⟩→b≠w.heap.size):=fun b o e=>by have:=hfr b o e;omega
   clear hfr hown2 EY hsW HA sD bg
   go_wp2_with fail
   go_loopg [7] R' (fun kx rv wr=>∃(t R2 n3 c3:Nat) (A3:Option Addr),t≤R' / b∧Hid (R2+t * b=R')∧rv=.slice A3 n3 c3∧Sl wr .i64 A3 n3 c3 (l9.limbs 10 R2)∧n3≤n'+1∧Hid (∀b o,A3=some ⟨b,o,none⟩→b≠w.heap.size)∧Own wr w.heap.size 3 .i64 (some ⟨w.heap.size,0,none⟩) n n (q.set (j - 1) t)∧R2≤kx∧Below w.heap.size w wr)
   case atStart=>exact⟨0,R',n2,kJ,A2,ww _,WP J,rfl,hsl2,J,HA2,zY,NE _,hw2⟩
   case round =>
    obtain⟨t,R2,n3,c3,A3,ht,HT,rfl,hs3,hn3,HA3,hown3,hk3,hb3⟩:=hrel;have Bg:=WP (BR 10 J A3 A' n3 n' c3 c' R2 b wr hs3 (hy.below hb3) J J);by_cases hge:R2 < b
    ·have HO:=WP (pJ hge);have HE:=WP (a6N hb0 HT.out hge)
     go_wp2_with (go_at_call 143;refine Bg.out.mono ?_;rintro e w2 ⟨rfl,qq,rfl⟩;rw[HO.out])
     go_roundw
     case rel =>
      refine⟨j - 1,R2,n3,c3,A3,q.set (j - 1) t,J,by go_num,rfl,hs3.drew qq,HA3,hge,hown3.drewN qq,Be.set J,WP (fun i hi=>by rw[getD_set_ne _ _ _ _ J];exact HZ.out i J),?_,below_drewN hb3 qq⟩;have h:=HST.out;rw[←HE.out.1,←HE.out.2]at h;exact WP h
     case measure=>simp only[intOf];omega
    ·have hz:0≤gI R2 b:=by
      rcases Zai b R2 with h | h
      ·rw[pK h];omega
      ·obtain rfl:R2=b:=J;rw[uu];omega
     have ht1:t+1≤R' / b:=by
      rw[Nat.le_div_iff_mul_le hb0,←HT.out,Nat.add_mul];omega
     have hln:n'≤n3:=by rw[←KE.out,←hs3.len];exact l9.cu J J
     have HM:Hid (∀qq:Nat,Calls prog 144 #[.slice A3 n3 c3,.slice A' n' c'] (wr.drewN qq) (ik .i64 (l9.limbs 10 (R2 - b)) (wr.drewN qq))):=fun qq=>by
      have:=tZ A3 A' n3 n' c3 c' _ _ (wr.drewN qq) (hs3.drew qq) ((hy.below hb3).drew qq) J hln (l9.Q4 J _) (l9.Q4 J _) (by rw[l9.L8 J,l9.L8 J];omega)
      rwa [l9.L8 J,l9.L8 J]at this
     have hll:(l9.limbs 10 (R2 - b)).length≤n3:=by rw[←hs3.len];exact l9.cu J J
     have HOr:=WP hown3;have hl3:=(hown3.lt rfl).2
     go_wp2_with (go_at_call 143;refine Bg.out.mono ?_;rintro e w2 ⟨rfl,qq,rfl⟩)
     refine (HM.out _).mono ?_;rintro e w4 ⟨A4,n4,c4,rfl,hs4,hb4,hf4⟩;have hn4:n4≤n3:=by rw[←hs4.len];exact hll
     have b7r:=(below_drewN hb3 qq).trans (hb4.mono (below_drewN hb3 qq).size);have hown4:=(HOr.out.drewN qq).below hb4;obtain⟨hco,hfo,_,hgl⟩:=hown4.cellAt (i:=j - 1) J;rw[a4S (by rw[HQL.out];omega)]at hco;have HA4:Hid (∀b o,A4=some ⟨b,o,none⟩→b≠w.heap.size):=fun b o e=>by have h1:=hf4 b o e;have h2:(wr.drewN qq).heap.size=wr.heap.size:=rfl;omega
     clear hf4;go_wp2
     go_roundg (R2 - b)
     case measure=>omega
     case rel =>
      refine⟨t+1,R2 - b,n4,c4,A4,ht1,WP (by have:=HT.out;rw[Nat.add_mul];omega),rfl,hs4.far (p:=⟨w.heap.size,j - 1,none⟩) (fun b o e=>HA4.out b o e) _,J,HA4,?_,NE _,b7r.setCell (p:=⟨w.heap.size,j - 1,none⟩) (NE _) _⟩
      exact hown4.setInt (y:=t+1) J (set_set _ _ _ _)
  ·have hjz:j=0:=J;subst hjz;have HQ:Hid (l9.D6 10 q=a / b∧R=a % b):=by
    have h:=HV.out;rw[Zb5,Zb5,l9.L8 J]at h;show _∧_;rw[h];exact⟨by rw[Nat.add_comm,Nat.add_mul_div_right _ _ hb0,Nat.div_eq_of_lt hR,ZaH],by rw[Nat.add_comm,Nat.add_mul_mod_self_right,Nat.mod_eq_of_lt hR]⟩
   have Ew:=hown.sl
   go_wp2_with fail
   refine (BN _ _ _ _ _ Ew J).mono ?_;rintro e w3 ⟨rfl,rfl⟩;go_wp2;go_ret2;refine⟨_,_,_,_,_,_,rfl,?_,?_,hb⟩
   ·have:=Ew.trimmed (B:=10) J Be;rw[HQ.out.1]at this;exact this
   ·rw[←HQ.out.2];exact sD
theorem a5h{a b n n':Nat}(h:(l9.limbs 10 a).length=n)(h':(l9.limbs 10 b).length=n'):(l9.limbs 10 (a * b)).length≤n+n':=by
 apply l9.BI J;rw[Nat.pow_add];have h1:=l9.mf (B:=10) J (l9.Q4 J a);have h2:=l9.mf (B:=10) J (l9.Q4 J b);rw[l9.L8 J,h]at h1;rw[l9.L8 J,h']at h2;rcases Zas b with e | e
 ·subst e;rw[Nat.mul_zero];exact Nat.mul_pos (Nat.pow_pos J) (Nat.pow_pos J)
 ·exact Nat.mul_lt_mul'' h1 h2
theorem a7L(x:Int):(if (!decide (x < 0))=true then -(x.natAbs:Int) else x.natAbs)=-x:=by
 by_cases h:x < 0
 ·rw[lw (by simpa using h)];omega
 ·rw[Za0 (by simpa using h)];omega
theorem fF(l:aa0)(hl:l.length≤2500000)(w:World):Calls prog 105 #[.string ⟨l.toArray⟩] w (gz (l.length+1) (l9.D5 l) w):=a4R l w hl
theorem nI(ng:Bool)(A:Option Addr)(n c v:Nat)(r:Int)(w:World)(hx:Sl w .i64 A n c (l9.limbs 10 v))(hn:n≤100000000)(hv:(if ng then -(v:Int) else v)=r) :
  Calls prog 108 #[.bool ng,.slice A n c] w (dG (Lib.itoa r) w):=by
 have:=BO ng A n c _ w hx hn (l9.Q4 J v);rw[l9.L8 J,jk hv]at this;exact this
theorem a4T(l:aa0)(w:World)(hl:l.length≤2500000) :
  Calls prog 197 #[.string ⟨l.toArray⟩] w (dG (Lib.itoa (-(l9.D5 l))) w):=by
 have HD:=WP (fF l hl w);generalize l9.D5 l=x at *;have HN:=WP (a7L x);obtain⟨s,hs⟩:∃s,s=decide (x < 0):=⟨_,rfl⟩;have HS:=WP hs;rw[←hs]at HN;clear hs
 go_enter func197,ntmps197
 go_wp2_with fail
 refine HD.out.mono ?_;rintro e w1 ⟨A1,n1,c1,rfl,hs1,hn1,hb1⟩;rw[←HS.out]
 go_wp2_with fail
 refine (nI _ A1 n1 c1 _ _ _ hs1 J HN.out).mono ?_;rintro e w2 ⟨rfl,hb2⟩;go_wp2;go_ret;exact⟨rfl,hb1.trans (hb2.mono hb1.size)⟩
theorem a4I(a b:aa0)(w:World)(ha:a.length≤2500000)(hb:b.length≤2500000) :
  Calls prog 233 #[.string ⟨a.toArray⟩,.string ⟨b.toArray⟩] w (pR (jd (l9.D5 a) (l9.D5 b)) w):=by
 have aj:Hid (∀w':World,Calls prog 105 #[.string ⟨a.toArray⟩] w' (gz (a.length+1) (l9.D5 a) w')):=fun w'=>fF a ha w'
 have HP2:Hid (∀w':World,Calls prog 105 #[.string ⟨b.toArray⟩] w' (gz (b.length+1) (l9.D5 b) w')):=fun w'=>fF b hb w'
 generalize l9.D5 a=x at aj;generalize l9.D5 b=y at HP2;by_cases hx:x < 0 <;> by_cases hy:y < 0
 ·have HF:=WP (Xb hx hy)
  go_enter func233,ntmps233
  go_wp2_with fail
  refine (aj.out _).mono ?_;rintro e w1 ⟨A1,n1,c1,rfl,hs1,hn1,hb1⟩;rw[UV hx]
  go_wp2_with fail
  refine (HP2.out _).mono ?_;rintro e w2 ⟨A2,n2,c2,rfl,hs2,hn2,hb2⟩;rw[UV hy];have hbw2:Below w.heap.size w w2:=hb1.trans (hb2.mono hb1.size);have HC:=WP (BR 10 J A2 A1 n2 n1 c2 c1 _ _ w2 hs2 (hs1.below hb2) J J)
  go_wp2_with (go_at_call 143;refine HC.out.mono ?_;rintro e w3 ⟨rfl,q,rfl⟩)
  go_ret;exact⟨by rw[←HF.out];rfl,below_drewN hbw2 q⟩
 ·have HF:=WP (Yo (a:=x) (b:=y) J)
  go_enter func233,ntmps233
  go_wp2_with fail
  refine (aj.out _).mono ?_;rintro e w1 ⟨A1,n1,c1,rfl,hs1,hn1,hb1⟩;rw[UV hx]
  go_wp2_with fail
  refine (HP2.out _).mono ?_;rintro e w2 ⟨A2,n2,c2,rfl,hs2,hn2,hb2⟩;rw[WF J];have hbw2:Below w.heap.size w w2:=hb1.trans (hb2.mono hb1.size);go_wp2;go_ret;exact⟨by rw[HF.out];rfl,hbw2⟩
 ·have HF:=WP (Yp (a:=x) (b:=y) J)
  go_enter func233,ntmps233
  go_wp2_with fail
  refine (aj.out _).mono ?_;rintro e w1 ⟨A1,n1,c1,rfl,hs1,hn1,hb1⟩;rw[WF J]
  go_wp2_with fail
  refine (HP2.out _).mono ?_;rintro e w2 ⟨A2,n2,c2,rfl,hs2,hn2,hb2⟩;rw[UV hy];have hbw2:Below w.heap.size w w2:=hb1.trans (hb2.mono hb1.size);go_wp2;go_ret;exact⟨by rw[HF.out];rfl,hbw2⟩
 ·have HF:=WP (Xa hx hy)
  go_enter func233,ntmps233
  go_wp2_with fail
  refine (aj.out _).mono ?_;rintro e w1 ⟨A1,n1,c1,rfl,hs1,hn1,hb1⟩;rw[WF J]
  go_wp2_with fail
  refine (HP2.out _).mono ?_;rintro e w2 ⟨A2,n2,c2,rfl,hs2,hn2,hb2⟩;rw[WF J];have hbw2:Below w.heap.size w w2:=hb1.trans (hb2.mono hb1.size);have HC:=WP (BR 10 J A1 A2 n1 n2 c1 c2 _ _ w2 (hs1.below hb2) hs2 J J)
  go_wp2_with (go_at_call 143;refine HC.out.mono ?_;rintro e w3 ⟨rfl,q,rfl⟩)
  go_ret;exact⟨by rw[←HF.out];rfl,below_drewN hbw2 q⟩
theorem a6g(a b:aa0)(w:World)(ha:a.length≤2500000)(hb:b.length≤2500000) :
  Calls prog 199 #[.string ⟨a.toArray⟩,.string ⟨b.toArray⟩] w (dG (Lib.itoa (l9.D5 a+l9.D5 b)) w):=by
 have aj:Hid (∀w':World,Calls prog 105 #[.string ⟨a.toArray⟩] w' (gz (a.length+1) (l9.D5 a) w')):=fun w'=>fF a ha w'
 have HP2:Hid (∀w':World,Calls prog 105 #[.string ⟨b.toArray⟩] w' (gz (b.length+1) (l9.D5 b) w')):=fun w'=>fF b hb w'
 generalize l9.D5 a=x at aj;generalize l9.D5 b=y at HP2;by_cases hx:x < 0 <;> by_cases hy:y < 0
 ·go_enter func199,ntmps199
  go_wp2_with fail
  refine (aj.out _).mono ?_;rintro e w1 ⟨A1,n1,c1,rfl,hs1,hn1,hb1⟩;rw[UV hx]
  go_wp2_with fail
  refine (HP2.out _).mono ?_;rintro e w2 ⟨A2,n2,c2,rfl,hs2,hn2,hb2⟩;rw[UV hy];have hbw2:Below w.heap.size w w2:=hb1.trans (hb2.mono hb1.size);have hP:=Nc A1 A2 n1 n2 c1 c2 _ _ w2 (hs1.below hb2) hs2 J J (l9.Q4 J _) (l9.Q4 J _);rw[l9.L8 J,l9.L8 J]at hP;have HP:=WP hP;clear hP
  go_wp2_with fail
  refine HP.out.mono ?_;rintro e w3 ⟨A3,n3,c3,o3,rfl,hn3,hs3,SK,hv3,hb3,_⟩;have hbw3:=hbw2.trans (hb3.mono hbw2.size);have hX:=BO true A3 n3 c3 o3 w3 hs3 J SK;rw[hv3,jk (v:=x+y) (by simp;omega)]at hX;have HX:=WP hX;clear hX hv3
  go_wp2_with fail
  refine HX.out.mono ?_;rintro e w4 ⟨rfl,hb4⟩;go_wp2;go_ret;exact⟨rfl,hbw3.trans (hb4.mono hbw3.size)⟩
 ·go_enter func199,ntmps199
  go_wp2_with fail
  refine (aj.out _).mono ?_;rintro e w1 ⟨A1,n1,c1,rfl,hs1,hn1,hb1⟩;rw[UV hx]
  go_wp2_with fail
  refine (HP2.out _).mono ?_;rintro e w2 ⟨A2,n2,c2,rfl,hs2,hn2,hb2⟩;rw[WF J];have hbw2:Below w.heap.size w w2:=hb1.trans (hb2.mono hb1.size);have HC:=WP (BR 10 J A1 A2 n1 n2 c1 c2 _ _ w2 (hs1.below hb2) hs2 J J);rcases Zai x.natAbs y.natAbs with h | h
  ·have HO:=WP (pJ h);have hln:n1≤n2:=by rw[←hs1.len,←hs2.len];exact l9.cu J J
   have hM:∀qq:Nat,Calls prog 144 #[.slice A2 n2 c2,.slice A1 n1 c1] (w2.drewN qq) (ik .i64 (l9.limbs 10 (y.natAbs - x.natAbs)) (w2.drewN qq)):=fun qq=>by
    have:=tZ A2 A1 n2 n1 c2 c1 _ _ (w2.drewN qq) (hs2.drew qq) ((hs1.below hb2).drew qq) J hln (l9.Q4 J _) (l9.Q4 J _) (by rw[l9.L8 J,l9.L8 J];omega)
    rwa [l9.L8 J,l9.L8 J]at this
   have HM:=WP hM;clear hM;have hll:(l9.limbs 10 (y.natAbs - x.natAbs)).length≤n2:=by rw[←hs2.len];exact l9.cu J J
   go_wp2_with (go_at_call 143;refine HC.out.mono ?_;rintro e w3 ⟨rfl,q,rfl⟩;rw[HO.out])
   refine (HM.out _).mono ?_;rintro e w3 ⟨A3,n3,c3,rfl,hs3,hb3,_⟩;have hbw3:=(below_drewN hbw2 q).trans (hb3.mono (below_drewN hbw2 q).size);have hn3:n3≤n2:=by rw[←hs3.len];exact hll
   go_wp2_with fail
   refine (nI false A3 n3 c3 _ (x+y) _ hs3 J (by simp;omega)).mono ?_;rintro e w4 ⟨rfl,hb4⟩;go_wp2;go_ret;exact⟨rfl,hbw3.trans (hb4.mono hbw3.size)⟩
  ·rcases Nat.lt_or_eq_of_le h with h2 | h2
   ·have HO:=WP (pK h2);have hln:n2≤n1:=by rw[←hs2.len,←hs1.len];exact l9.cu J J
    have hM:∀qq:Nat,Calls prog 144 #[.slice A1 n1 c1,.slice A2 n2 c2] (w2.drewN qq) (ik .i64 (l9.limbs 10 (x.natAbs - y.natAbs)) (w2.drewN qq)):=fun qq=>by
     have:=tZ A1 A2 n1 n2 c1 c2 _ _ (w2.drewN qq) ((hs1.below hb2).drew qq) (hs2.drew qq) J hln (l9.Q4 J _) (l9.Q4 J _) (by rw[l9.L8 J,l9.L8 J];omega)
     rwa [l9.L8 J,l9.L8 J]at this
    have HM:=WP hM;clear hM;have hll:(l9.limbs 10 (x.natAbs - y.natAbs)).length≤n1:=by rw[←hs1.len];exact l9.cu J J
    go_wp2_with (go_at_call 143;refine HC.out.mono ?_;rintro e w3 ⟨rfl,q,rfl⟩;rw[HO.out])
    refine (HM.out _).mono ?_;rintro e w3 ⟨A3,n3,c3,rfl,hs3,hb3,_⟩;have hbw3:=(below_drewN hbw2 q).trans (hb3.mono (below_drewN hbw2 q).size);have hn3:n3≤n1:=by rw[←hs3.len];exact hll
    go_wp2_with fail
    refine (nI true A3 n3 c3 _ (x+y) _ hs3 J (by simp;omega)).mono ?_;rintro e w4 ⟨rfl,hb4⟩;go_wp2;go_ret;exact⟨rfl,hbw3.trans (hb4.mono hbw3.size)⟩
   ·have HO:Hid (gI x.natAbs y.natAbs=0):=by rw[h2];exact uu _
    have HH:=WP h2;clear h2;have hln:n2≤n1:=by rw[←hs2.len,←hs1.len];exact l9.cu J J
    have hM:∀qq:Nat,Calls prog 144 #[.slice A1 n1 c1,.slice A2 n2 c2] (w2.drewN qq) (ik .i64 (l9.limbs 10 (x.natAbs - y.natAbs)) (w2.drewN qq)):=fun qq=>by
     have:=tZ A1 A2 n1 n2 c1 c2 _ _ (w2.drewN qq) ((hs1.below hb2).drew qq) (hs2.drew qq) J hln (l9.Q4 J _) (l9.Q4 J _) (by rw[l9.L8 J,l9.L8 J];omega)
     rwa [l9.L8 J,l9.L8 J]at this
    have HM:=WP hM;clear hM;have hll:(l9.limbs 10 (x.natAbs - y.natAbs)).length≤n1:=by rw[←hs1.len];exact l9.cu J J
    go_wp2_with (go_at_call 143;refine HC.out.mono ?_;rintro e w3 ⟨rfl,q,rfl⟩;rw[HO.out])
    refine (HM.out _).mono ?_;rintro e w3 ⟨A3,n3,c3,rfl,hs3,hb3,_⟩;have hbw3:=(below_drewN hbw2 q).trans (hb3.mono (below_drewN hbw2 q).size);have hn3:n3≤n1:=by rw[←hs3.len];exact hll
    go_wp2_with fail
    refine (nI true A3 n3 c3 _ (x+y) _ hs3 J (by have:=HH.out;simp;omega)).mono ?_
    rintro e w4 ⟨rfl,hb4⟩;go_wp2;go_ret;exact⟨rfl,hbw3.trans (hb4.mono hbw3.size)⟩
 ·go_enter func199,ntmps199
  go_wp2_with fail
  refine (aj.out _).mono ?_;rintro e w1 ⟨A1,n1,c1,rfl,hs1,hn1,hb1⟩;rw[WF J]
  go_wp2_with fail
  refine (HP2.out _).mono ?_;rintro e w2 ⟨A2,n2,c2,rfl,hs2,hn2,hb2⟩;rw[UV hy];have hbw2:Below w.heap.size w w2:=hb1.trans (hb2.mono hb1.size);have HC:=WP (BR 10 J A1 A2 n1 n2 c1 c2 _ _ w2 (hs1.below hb2) hs2 J J);rcases Zai x.natAbs y.natAbs with h | h
  ·have HO:=WP (pJ h);have hln:n1≤n2:=by rw[←hs1.len,←hs2.len];exact l9.cu J J
   have hM:∀qq:Nat,Calls prog 144 #[.slice A2 n2 c2,.slice A1 n1 c1] (w2.drewN qq) (ik .i64 (l9.limbs 10 (y.natAbs - x.natAbs)) (w2.drewN qq)):=fun qq=>by
    have:=tZ A2 A1 n2 n1 c2 c1 _ _ (w2.drewN qq) (hs2.drew qq) ((hs1.below hb2).drew qq) J hln (l9.Q4 J _) (l9.Q4 J _) (by rw[l9.L8 J,l9.L8 J];omega)
    rwa [l9.L8 J,l9.L8 J]at this
   have HM:=WP hM;clear hM;have hll:(l9.limbs 10 (y.natAbs - x.natAbs)).length≤n2:=by rw[←hs2.len];exact l9.cu J J
   go_wp2_with (go_at_call 143;refine HC.out.mono ?_;rintro e w3 ⟨rfl,q,rfl⟩;rw[HO.out])
   refine (HM.out _).mono ?_;rintro e w3 ⟨A3,n3,c3,rfl,hs3,hb3,_⟩;have hbw3:=(below_drewN hbw2 q).trans (hb3.mono (below_drewN hbw2 q).size);have hn3:n3≤n2:=by rw[←hs3.len];exact hll
   go_wp2_with fail
   refine (nI true A3 n3 c3 _ (x+y) _ hs3 J (by simp;omega)).mono ?_;rintro e w4 ⟨rfl,hb4⟩;go_wp2;go_ret;exact⟨rfl,hbw3.trans (hb4.mono hbw3.size)⟩
  ·rcases Nat.lt_or_eq_of_le h with h2 | h2
   ·have HO:=WP (pK h2);have hln:n2≤n1:=by rw[←hs2.len,←hs1.len];exact l9.cu J J
    have hM:∀qq:Nat,Calls prog 144 #[.slice A1 n1 c1,.slice A2 n2 c2] (w2.drewN qq) (ik .i64 (l9.limbs 10 (x.natAbs - y.natAbs)) (w2.drewN qq)):=fun qq=>by
     have:=tZ A1 A2 n1 n2 c1 c2 _ _ (w2.drewN qq) ((hs1.below hb2).drew qq) (hs2.drew qq) J hln (l9.Q4 J _) (l9.Q4 J _) (by rw[l9.L8 J,l9.L8 J];omega)
     rwa [l9.L8 J,l9.L8 J]at this
    have HM:=WP hM;clear hM;have hll:(l9.limbs 10 (x.natAbs - y.natAbs)).length≤n1:=by rw[←hs1.len];exact l9.cu J J
    go_wp2_with (go_at_call 143;refine HC.out.mono ?_;rintro e w3 ⟨rfl,q,rfl⟩;rw[HO.out])
    refine (HM.out _).mono ?_;rintro e w3 ⟨A3,n3,c3,rfl,hs3,hb3,_⟩;have hbw3:=(below_drewN hbw2 q).trans (hb3.mono (below_drewN hbw2 q).size);have hn3:n3≤n1:=by rw[←hs3.len];exact hll
    go_wp2_with fail
    refine (nI false A3 n3 c3 _ (x+y) _ hs3 J (by simp;omega)).mono ?_;rintro e w4 ⟨rfl,hb4⟩;go_wp2;go_ret;exact⟨rfl,hbw3.trans (hb4.mono hbw3.size)⟩
   ·have HO:Hid (gI x.natAbs y.natAbs=0):=by rw[h2];exact uu _
    have HH:=WP h2;clear h2;have hln:n2≤n1:=by rw[←hs2.len,←hs1.len];exact l9.cu J J
    have hM:∀qq:Nat,Calls prog 144 #[.slice A1 n1 c1,.slice A2 n2 c2] (w2.drewN qq) (ik .i64 (l9.limbs 10 (x.natAbs - y.natAbs)) (w2.drewN qq)):=fun qq=>by
     have:=tZ A1 A2 n1 n2 c1 c2 _ _ (w2.drewN qq) ((hs1.below hb2).drew qq) (hs2.drew qq) J hln (l9.Q4 J _) (l9.Q4 J _) (by rw[l9.L8 J,l9.L8 J];omega)
     rwa [l9.L8 J,l9.L8 J]at this
    have HM:=WP hM;clear hM;have hll:(l9.limbs 10 (x.natAbs - y.natAbs)).length≤n1:=by rw[←hs1.len];exact l9.cu J J
    go_wp2_with (go_at_call 143;refine HC.out.mono ?_;rintro e w3 ⟨rfl,q,rfl⟩;rw[HO.out])
    refine (HM.out _).mono ?_;rintro e w3 ⟨A3,n3,c3,rfl,hs3,hb3,_⟩;have hbw3:=(below_drewN hbw2 q).trans (hb3.mono (below_drewN hbw2 q).size);have hn3:n3≤n1:=by rw[←hs3.len];exact hll
    go_wp2_with fail
    refine (nI false A3 n3 c3 _ (x+y) _ hs3 J (by have:=HH.out;simp;omega)).mono ?_
    rintro e w4 ⟨rfl,hb4⟩;go_wp2;go_ret;exact⟨rfl,hbw3.trans (hb4.mono hbw3.size)⟩
 ·go_enter func199,ntmps199
  go_wp2_with fail
  refine (aj.out _).mono ?_;rintro e w1 ⟨A1,n1,c1,rfl,hs1,hn1,hb1⟩;rw[WF J]
  go_wp2_with fail
  refine (HP2.out _).mono ?_;rintro e w2 ⟨A2,n2,c2,rfl,hs2,hn2,hb2⟩;rw[WF J];have hbw2:Below w.heap.size w w2:=hb1.trans (hb2.mono hb1.size);have hP:=Nc A1 A2 n1 n2 c1 c2 _ _ w2 (hs1.below hb2) hs2 J J (l9.Q4 J _) (l9.Q4 J _);rw[l9.L8 J,l9.L8 J]at hP;have HP:=WP hP;clear hP
  go_wp2_with fail
  refine HP.out.mono ?_;rintro e w3 ⟨A3,n3,c3,o3,rfl,hn3,hs3,SK,hv3,hb3,_⟩;have hbw3:=hbw2.trans (hb3.mono hbw2.size);have hX:=BO false A3 n3 c3 o3 w3 hs3 J SK;rw[hv3,jk (v:=x+y) (by simp;omega)]at hX;have HX:=WP hX;clear hX hv3
  go_wp2_with fail
  refine HX.out.mono ?_;rintro e w4 ⟨rfl,hb4⟩;go_wp2;go_ret;exact⟨rfl,hbw3.trans (hb4.mono hbw3.size)⟩
theorem VG(a b:aa0)(w:World)(ha:a.length≤2500000)(hb:b.length≤2500000) :
  Calls prog 200 #[.string ⟨a.toArray⟩,.string ⟨b.toArray⟩] w (dG (Lib.itoa (l9.D5 a * l9.D5 b)) w):=by
 have aj:Hid (∀w':World,Calls prog 105 #[.string ⟨a.toArray⟩] w' (gz (a.length+1) (l9.D5 a) w')):=fun w'=>fF a ha w'
 have HP2:Hid (∀w':World,Calls prog 105 #[.string ⟨b.toArray⟩] w' (gz (b.length+1) (l9.D5 b) w')):=fun w'=>fF b hb w'
 generalize l9.D5 a=x at aj;generalize l9.D5 b=y at HP2;have hms:(if (!(decide (x < 0) == decide (y < 0)))=true then -((x.natAbs * y.natAbs:Nat):Int) else ((x.natAbs * y.natAbs:Nat):Int))=x * y:=Xd x y;obtain⟨s,hsd⟩:∃s,s=decide (x < 0):=⟨_,rfl⟩;obtain⟨s',dC⟩:∃s',s'=decide (y < 0):=⟨_,rfl⟩;rw[←hsd,←dC]at hms;have fC:=WP hsd;have jC:=WP dC;clear hsd dC;obtain⟨z,hz⟩:∃z,z=(!(s == s')):=⟨_,rfl⟩;rw[←hz]at hms;have TF:=WP hms;have hz':(!(s == s'))=z:=hz.symm;clear hz hms
 go_enter func200,ntmps200
 go_wp2_with fail
 refine (aj.out _).mono ?_;rintro e w1 ⟨A1,n1,c1,rfl,hs1,hn1,hb1⟩;rw[←fC.out]
 go_wp2_with fail
 refine (HP2.out _).mono ?_;rintro e w2 ⟨A2,n2,c2,rfl,hs2,hn2,hb2⟩;rw[←jC.out];have hbw2:Below w.heap.size w w2:=hb1.trans (hb2.mono hb1.size);have hl:=a5h hs1.len hs2.len;have hT:=a5f A1 A2 n1 n2 c1 c2 _ _ w2 (hs1.below hb2) hs2 J J (l9.Q4 J _) (l9.Q4 J _);rw[l9.L8 J,l9.L8 J]at hT;have HT:=WP hT;clear hT
 go_wp2_with fail
 refine HT.out.mono ?_;rintro e w3 ⟨A3,n3,c3,rfl,hs3,hb3,_⟩;have hbw3:=hbw2.trans (hb3.mono hbw2.size);have hn3:n3≤n1+n2:=by rw[←hs3.len];exact hl
 go_wp2_with fail
 refine (nI z A3 n3 c3 _ _ _ hs3 J TF.out).mono ?_;rintro e w4 ⟨rfl,hb4⟩;go_wp2;go_ret;exact⟨rfl,hbw3.trans (hb4.mono hbw3.size)⟩
end Go.Proofs.YthhknjlmjefklaaGreatDoor
