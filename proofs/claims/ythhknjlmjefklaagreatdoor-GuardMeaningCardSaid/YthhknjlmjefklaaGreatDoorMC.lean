/- lispproverref1.text: the decimal of a sign and digits. -/
import Derived.Test.YthhknjlmjefklaaGreatDoorMB
import Derived.Laws.BytesArg
import Derived.IntWalk
import Derived.Deep.QuietTactic
import Derived.BigQuiet
import Derived.Deep.DeepCutAuto
import Derived.Test.YthhknjlmjefklaaGreatDoorMA
import Derived.Deep.LoopGhost
namespace Go.Proofs.YthhknjlmjefklaaGreatDoor
open Go.RowKit
theorem Sl.str {P:Program} {w:World} {A:Option Addr} {n c:Nat} {l:List Nat} (h:Sl w .u8 A n c l) (hn:0 < n) (src e dst:TypeId) (hs:P.underlying src=some (.slice e)) (he:P.underlying e=some (.int .u8)) (hd:P.underlying dst=some .string) :
  (convert src dst (.slice A n c)).run P w=.ok (.string ⟨(l.map UInt8.ofNat).toArray⟩) w:=by
 obtain ⟨b,o,rfl,_,hc⟩:=h.cells hn
 have:=run_convert_bytes_arg (P:=P) w src e hs he b o n c (l.map fun (x:Nat)=>(x:Int)) (by rw [List.length_map,h.len]) (fun i hi=>by
  rw [hc i hi,List.getD_eq_getElem?_getD,List.getD_eq_getElem?_getD,List.getElem?_map,List.getElem?_eq_getElem (by rw [h.len];exact hi)];rfl) dst hd
 rw [this]
 simp [strOfNums]
theorem text_bytes (ng:Bool) {v:Nat} (hv:v≠0):((if ng then [45] else [])++((Dec.limbs 10 v).drop 0).reverse.map (fun d=>48+d)).map UInt8.ofNat=numStr ng v:=by
 unfold numStr
 rw [itoa_sign ng hv,List.map_append,List.drop_zero,List.map_map,← Dec.limbs10_decDigits hv]
 cases ng <;> rfl
theorem drop_rev {l:List Nat} {j:Nat} (h0:0 < j) (hj:j≤l.length):((l.drop (j - 1)).reverse.map fun d=>48+d)=((l.drop j).reverse.map fun d=>48+d)++[48+l.getD (j - 1) 0]:=by
 obtain ⟨m,rfl⟩:∃ m,j=m+1:=⟨j - 1,by omega⟩
 rw [Nat.add_sub_cancel,List.drop_eq_getElem_cons (by omega),List.reverse_cons,List.map_append,List.getD_eq_getElem?_getD,List.getElem?_eq_getElem (by omega)]
 rfl
set_option maxHeartbeats 1000000 in
set_option maxRecDepth 100000 in
theorem refText_any (ng:Bool) (A:Option Addr) (n c:Nat) (x:List Nat) (w:World) (hx:Sl w .i64 A n c x) (hn:n≤100000000) (hs:Dec.Small 10 x) :
  Calls Tryz.prog 108 #[.bool ng,.slice A n c] w (RetStr (numStr ng (Dec.lval 10 x)) w):=by
 have HT:=Lib.hid (refTrim_any A n c x w hx (by omega))
 have hsl:=hx.trimmed (B:=10) (by omega) hs
 have htl:=trimZ_length_le x
 have hxl:=hx.len
 have HL:=Lib.hid hsl.len
 generalize (Dec.trimZ x).length=m at HT hsl htl HL
 generalize Dec.lval 10 x=v at hsl HL
 have hm:m≤100000000:=by omega
 clear htl hxl
 by_cases h0:v=0
 ·subst h0
  have hm0:m=0:=by rw [← HL.out];rfl
  subst hm0
  rw [numStr_zero]
  go_enter Tryz.func108,Tryz.ntmps108
  go_wp2_with fail
  refine HT.out.mono ?_
  rintro e w' ⟨rfl,rfl⟩
  go_wp2
  go_ret
  exact ⟨rfl,Below.refl _ _⟩
 ·have hmp:0 < m:=by
   rcases Nat.eq_zero_or_pos m with e | e
   ·exact absurd ((Dec.limbs_eq_nil (B:=10) (by omega)).1 (List.eq_nil_of_length_eq_zero (by rw [HL.out];exact e))) h0
   ·exact e
  have hm0:((m:Int) == 0)=false:=by rw [beq_eq_false_iff_ne];omega
  have HF:=Lib.hid h0
  clear h0
  have hsm:=Dec.limbs_small (B:=10) (by omega) v
  cases ng with
  | true =>
   have HG:Hid (([45]++((Dec.limbs 10 v).drop 0).reverse.map (fun d=>48+d)).map UInt8.ofNat=numStr true v):=text_bytes true HF.out
   go_enter Tryz.func108,Tryz.ntmps108
   go_wp2_with fail
   refine HT.out.mono ?_
   rintro e w' ⟨rfl,rfl⟩
   go_wp2_with (at_builtin;refine wpList_app (w0:=w) rfl _ _ _ rfl 5 .u8 1 Tryz.underlying209 infoByte (by omega) _ _ _ [] rfl (Own.nil _ _ _ _) _ 45 (by omega) rfl (by omega) (Below.refl _ _) ?_;intro A1 c1 w1 hown1 hb1 _ _ _)
   go_loopw [5,6] (fun out ix wr=>∃ (j c2:Nat) (A2:Option Addr),j≤m∧ix=.int .i64 ((j:Int) - 1)∧out=.slice A2 (1+(m - j)) c2∧Own wr w.heap.size 5 .u8 A2 (1+(m - j)) c2 ([45]++((Dec.limbs 10 v).drop j).reverse.map (fun d=>48+d))∧Below w.heap.size w wr) (fun _ ix _=>(intOf ix+1).toNat)
   case atStart=>exact ⟨m,c1,A1,Nat.le_refl _,rfl,by rw [Nat.sub_self],by rw [Nat.sub_self,List.drop_of_length_le (by rw [HL.out];exact Nat.le_refl _)];exact hown1,hb1⟩
   case round =>
    obtain ⟨j,c2,A2,hj,rfl,rfl,hown,hb⟩:=hrel
    by_cases hj0:0 < j
    ·obtain ⟨b,o,rfl,_,hcx⟩:=(hsl.below hb).cells (by omega)
     have hcu:=hcx (j - 1) (by omega)
     clear hcx
     have hu:=getD_lt hsm (by omega) (j - 1)
     have HR:=Lib.hid (drop_rev (l:=Dec.limbs 10 v) hj0 (by rw [HL.out];exact hj))
     generalize (Dec.limbs 10 v).getD (j - 1) 0=u at hcu hu HR
     have hi1:(0:Int)≤(j:Int) - 1:=by omega
     have hi2:(j:Int) - 1 < m:=by omega
     have hi3:((j:Int) - 1).toNat=j - 1:=by omega
     have hw8:IntKind.u8.wrap (48+(u:Int))=48+u:=by rw [IntKind.wrap_u8];omega
     go_wp2_with (at_builtin;refine wpList_app (w0:=w) rfl _ _ _ rfl 5 .u8 1 Tryz.underlying209 infoByte (by omega) _ _ _ _ rfl hown _ (48+u) (by omega) rfl (by omega) hb ?_;intro A3 c3 w2 hown2 hb2 _ _ _)
     go_roundw
     case rel=>exact ⟨j - 1,c3,A3,by omega,by go_num,by congr 1;omega,by rw [HR.out,← List.append_assoc,show 1+(m - (j - 1))=1+(m - j)+1 by omega];exact hown2,hb2⟩
     case measure=>simp only [intOf];omega
    ·have hjz:j=0:=by omega
     subst hjz
     have hst:=hown.sl.str (P:=Tryz.prog) (by omega) 209 5 9 Tryz.underlying209 Tryz.underlying5 Tryz.underlying9
     rw [HG.out] at hst
     obtain ⟨S,hS⟩:∃ S:ByteArray,S=⟨(numStr true v).toArray⟩:=⟨_,rfl⟩
     rw [← hS] at hst
     have HS:=Lib.hid hS
     clear hS
     simp only [Nat.sub_zero] at hst
     go_wp2
     go_ret
     exact ⟨by rw [← HS.out];rfl,hb⟩
  | false =>
   have HG:Hid (([]++((Dec.limbs 10 v).drop 0).reverse.map (fun d=>48+d)).map UInt8.ofNat=numStr false v):=text_bytes false HF.out
   go_enter Tryz.func108,Tryz.ntmps108
   go_wp2_with fail
   refine HT.out.mono ?_
   rintro e w' ⟨rfl,rfl⟩
   go_wp2
   go_loopw [5,6] (fun out ix wr=>∃ (j c2:Nat) (A2:Option Addr),j≤m∧ix=.int .i64 ((j:Int) - 1)∧out=.slice A2 (m - j) c2∧Own wr w.heap.size 5 .u8 A2 (m - j) c2 ([]++((Dec.limbs 10 v).drop j).reverse.map (fun d=>48+d))∧Below w.heap.size w wr) (fun _ ix _=>(intOf ix+1).toNat)
   case atStart=>exact ⟨m,0,none,Nat.le_refl _,rfl,by rw [Nat.sub_self],by rw [Nat.sub_self,List.drop_of_length_le (by rw [HL.out];exact Nat.le_refl _)];exact Own.nil _ _ _ _,Below.refl _ _⟩
   case round =>
    obtain ⟨j,c2,A2,hj,rfl,rfl,hown,hb⟩:=hrel
    by_cases hj0:0 < j
    ·obtain ⟨b,o,rfl,_,hcx⟩:=(hsl.below hb).cells (by omega)
     have hcu:=hcx (j - 1) (by omega)
     clear hcx
     have hu:=getD_lt hsm (by omega) (j - 1)
     have HR:=Lib.hid (drop_rev (l:=Dec.limbs 10 v) hj0 (by rw [HL.out];exact hj))
     generalize (Dec.limbs 10 v).getD (j - 1) 0=u at hcu hu HR
     have hi1:(0:Int)≤(j:Int) - 1:=by omega
     have hi2:(j:Int) - 1 < m:=by omega
     have hi3:((j:Int) - 1).toNat=j - 1:=by omega
     have hw8:IntKind.u8.wrap (48+(u:Int))=48+u:=by rw [IntKind.wrap_u8];omega
     go_wp2_with (at_builtin;refine wpList_app (w0:=w) rfl _ _ _ rfl 5 .u8 1 Tryz.underlying209 infoByte (by omega) _ _ _ _ rfl hown _ (48+u) (by omega) rfl (by omega) hb ?_;intro A3 c3 w2 hown2 hb2 _ _ _)
     go_roundw
     case rel=>exact ⟨j - 1,c3,A3,by omega,by go_num,by congr 1;omega,by rw [HR.out,← List.append_assoc,show m - (j - 1)=m - j+1 by omega];exact hown2,hb2⟩
     case measure=>simp only [intOf];omega
    ·have hjz:j=0:=by omega
     subst hjz
     have hst:=hown.sl.str (P:=Tryz.prog) (by omega) 209 5 9 Tryz.underlying209 Tryz.underlying5 Tryz.underlying9
     rw [HG.out] at hst
     obtain ⟨S,hS⟩:∃ S:ByteArray,S=⟨(numStr false v).toArray⟩:=⟨_,rfl⟩
     rw [← hS] at hst
     have HS:=Lib.hid hS
     clear hS
     simp only [Nat.sub_zero] at hst
     go_wp2
     go_ret
     exact ⟨by rw [← HS.out];rfl,hb⟩
end Go.Proofs.YthhknjlmjefklaaGreatDoor
namespace Go.Proofs.YthhknjlmjefklaaGreatDoor
open Go.RowKit
theorem digit_mul {u v:Nat} (hu:u < 10) (hv:v < 10):(0:Int)≤(u:Int) * v∧(u:Int) * v≤81:=by
 have h:u * v≤9 * 9:=Nat.mul_le_mul (by omega) (by omega)
 have e:((u * v:Nat):Int)=(u:Int) * v:=by rw [Int.natCast_mul]
 omega
theorem cast_mod10 {z u v c:Nat}:((z:Int)+c+(u:Int) * v) % 10=(((z+u * v+c) % 10:Nat):Int):=by
 rw [Int.natCast_emod,Int.natCast_add,Int.natCast_add,Int.natCast_mul]
 congr 1;omega
theorem cast_div10 {z u v c:Nat}:((z:Int)+c+(u:Int) * v) / 10=(((z+u * v+c) / 10:Nat):Int):=by
 rw [Int.natCast_ediv,Int.natCast_add,Int.natCast_add,Int.natCast_mul]
 congr 1;omega
set_option maxHeartbeats 2000000 in
theorem refTimes_any (A A':Option Addr) (n n' c c':Nat) (x y:List Nat) (w:World) (hx:Sl w .i64 A n c x) (hy:Sl w .i64 A' n' c' y) (hn:n≤100000000) (hn':n'≤100000000)
  (hsx:Dec.Small 10 x) (hsy:Dec.Small 10 y) :
  Calls Tryz.prog 231 #[.slice A n c,.slice A' n' c'] w (RetSl .i64 (Dec.limbs 10 (Dec.lval 10 x * Dec.lval 10 y)) w):=by
 go_enter Tryz.func231,Tryz.ntmps231
 go_wp2_with (at_make;refine wpList_mk (w0:=w) rfl _ _ _ rfl 3 .i64 8 Tryz.underlying175 infoInt (by omega) _ _ _ _ (n+n'+1) rfl rfl (by omega) (by omega) (by omega) (Below.refl _ _) ?_;intro w1 hown1 hb1 _ _)
 go_loopw [6] (fun ix wr=>∃ (k:Nat) (L:List Nat),k≤n∧ix=.int .i64 k∧Own wr w.heap.size 3 .i64 (some ⟨w.heap.size,0,none⟩) (n+n'+1) (n+n'+1) L∧Dec.Small 10 L∧Hid (Dec.lval 10 L=Dec.lval 10 (x.take k) * Dec.lval 10 y)∧Hid (∀ j,k+n'≤j→L.getD j 0=0)∧Below w.heap.size w wr) (fun ix _=>n - (intOf ix).toNat)
 case atStart=>exact ⟨0,_,Nat.zero_le _,rfl,hown1,small_replicate _ _ (by omega),(by rw [lval_replicate,List.take_zero];simp [Dec.lval]:Dec.lval 10 (List.replicate (n+n'+1) 0)=Dec.lval 10 (x.take 0) * Dec.lval 10 y),(fun j _=>getD_replicate _ j:∀ j,0+n'≤j→(List.replicate (n+n'+1) 0).getD j 0=0),hb1⟩
 case round =>
  obtain ⟨k,L,hk,rfl,hown,hsL,HV,HZ,hb⟩:=hrel
  obtain ⟨wo,rfl⟩:∃ wo:World,wo=wr:=⟨_,rfl⟩
  by_cases hkn:k < n
  ·obtain ⟨b,off,rfl,_,hcx⟩:=hx.cells (by omega)
   clear hcx
   have hu:=getD_lt (l:=x) hsx (by omega) k
   have HT:=Lib.hid (Dec.times_outer (B:=10) (a:=x) (b:=y) (i:=k) HV.out)
   generalize hu0:x.getD k 0=u at hu HT
   have HU0:=Lib.hid hu0
   clear hu0
   go_wp2
   go_loopw [7,8] (fun cr jx wr=>∃ (m cy:Nat) (M:List Nat),m≤n'+1∧jx=.int .i64 m∧cr=.int .i64 cy∧cy < 10∧(m=n'+1→cy=0)∧Own wr w.heap.size 3 .i64 (some ⟨w.heap.size,0,none⟩) (n+n'+1) (n+n'+1) M∧Dec.Small 10 M∧Hid (Dec.lval 10 M+10 ^ (k+m) * cy=Dec.lval 10 L+10 ^ k * (u * Dec.lval 10 (y.take m)))∧Hid (∀ j,k+n'≤j→k+m≤j→M.getD j 0=0)∧Below w.heap.size w wr) (fun _ jx _=>n'+1 - (intOf jx).toNat)
   case atStart=>exact ⟨0,0,L,Nat.zero_le _,rfl,rfl,by omega,by omega,hown,hsL,(by simp [Dec.lval]:Dec.lval 10 L+10 ^ (k+0) * 0=Dec.lval 10 L+10 ^ k * (u * Dec.lval 10 (y.take 0))),(fun j hj _=>HZ.out j hj:∀ j,k+n'≤j→k+0≤j→L.getD j 0=0),hb⟩
   case round =>
    obtain ⟨m,cy,M,hm,rfl,rfl,hcy,hmc,hownM,hsM,HM,HZM,hbM⟩:=hrel
    have HMC:=Lib.hid hmc
    clear hmc
    have HLM:=Lib.hid hownM.len
    by_cases hmn:m < n'
    ·obtain ⟨b',off',rfl,_,hcy'⟩:=(hy.below hbM).cells (by omega)
     have hcv:=hcy' m hmn
     clear hcy'
     obtain ⟨b2,off2,e2,_,hcx⟩:=(hx.below hbM).cells (by omega)
     have hcu:=hcx k hkn
     rw [HU0.out] at hcu
     injection e2 with e2
     injection e2 with e21 e22
     subst e21 e22
     clear hcx
     have hv:=getD_lt (l:=y) hsy (by omega) m
     obtain ⟨hco,hfo,_,hgl⟩:=hownM.cellAt (i:=k+m) (by omega)
     have hz:=getD_lt (l:=M) hsM (by omega) (k+m)
     have HR:=Lib.hid (Dec.times_round (B:=10) (o:=M) (b:=y) (x:=u) (i:=k) (j:=m) (by rw [HLM.out];omega) HM.out rfl rfl)
     generalize M.getD (k+m) 0=z at hco hz HR
     generalize y.getD m 0=v at hcv hv HR
     obtain ⟨hp1,hp2⟩:=digit_mul hu hv
     have hfit:=Dec.times_fits (B:=10) (by omega) hz hu hv hcy
     have v1:IntKind.i64.wrap ((u:Int) * v)=(u:Int) * v:=IntWalk.i64_in _ (by omega)
     have v2:IntKind.i64.wrap ((z:Int)+cy+(u:Int) * v)=(z:Int)+cy+(u:Int) * v:=IntWalk.i64_in _ (by omega)
     go_upto_region 11 with (fail)
     go_quiet (fail)
     clear v1 v2
     go_wp2
     go_roundw
     case rel =>
      refine ⟨m+1,(z+u * v+cy) / 10,M.set (k+m) ((z+u * v+cy) % 10),by omega,by go_num,?_,by omega,by omega,(hownM.drewN _).setInt ?_ rfl,hsM.set (by omega),HR.out,(fun j hj hj2=>by rw [getD_set_ne _ _ _ _ (by omega)];exact HZM.out j hj (by omega):∀ j,k+n'≤j→k+(m+1)≤j→(M.set (k+m) ((z+u * v+cy) % 10)).getD j 0=0),(below_drewN hbM _).setCell (p:=⟨w.heap.size,k+m,none⟩) (Nat.le_refl _) _⟩
      ·rw [cast_div10]
      ·rw [cast_mod10]
     case measure=>simp only [intOf];omega
    ·by_cases hc0:0 < cy
     ·have hmm:m=n':=by
       rcases Nat.lt_or_ge n' m with h | h
       ·have:=HMC.out (by omega);omega
       ·omega
      subst hmm
      obtain ⟨hco,hfo,_,hgl⟩:=hownM.cellAt (i:=k+m) (by omega)
      have HR:Hid (Dec.lval 10 (M.set (k+m) cy)+10 ^ (k+(m+1)) * 0=Dec.lval 10 L+10 ^ k * (u * Dec.lval 10 (y.take (m+1)))):=by
       have hly:=hy.len
       subst hly
       have h:=Dec.times_row (B:=10) (s:=Dec.lval 10 L) (by rw [HLM.out];omega) (HZM.out _ (Nat.le_refl _) (Nat.le_refl _)) HM.out
       show _=_
       rw [List.take_of_length_le (by omega),Nat.mul_zero,Nat.add_zero]
       exact h
      rw [HZM.out _ (Nat.le_refl _) (Nat.le_refl _)] at hco
      go_wp2
      go_roundw
      case rel =>
       refine ⟨m+1,0,M.set (k+m) cy,by omega,by go_num,?_,by omega,fun _=>rfl,hownM.setInt ?_ rfl,hsM.set hcy,HR.out,(fun j hj hj2=>by rw [getD_set_ne _ _ _ _ (by omega)];exact HZM.out j hj (by omega):∀ j,k+m≤j→k+(m+1)≤j→(M.set (k+m) cy).getD j 0=0),hbM.setCell (p:=⟨w.heap.size,k+m,none⟩) (Nat.le_refl _) _⟩
       ·congr 1;omega
       ·omega
      case measure=>simp only [intOf];omega
     ·have hcz:cy=0:=by omega
      subst hcz
      have HR:Hid (Dec.lval 10 M=Dec.lval 10 (x.take (k+1)) * Dec.lval 10 y):=by
       have h:=HM.out
       rw [List.take_of_length_le (by rw [hy.len];omega),Nat.mul_zero,Nat.add_zero] at h
       exact h.trans HT.out
      go_wp2
      go_roundw
      case rel=>exact ⟨k+1,M,by omega,by go_num,hownM,hsM,HR.out,(fun j hj=>HZM.out j (by omega) (by omega):∀ j,k+1+n'≤j→M.getD j 0=0),hbM⟩
      case measure=>simp only [intOf];omega
  ·have hkk:k=n:=by omega
   subst hkk
   have hsl:=hown.sl
   go_wp2_with fail
   refine (refTrim_any _ _ _ _ _ hsl (by omega)).mono ?_
   rintro e w' ⟨rfl,rfl⟩
   go_wp2
   go_ret
   refine ⟨_,_,_,rfl,?_,hb,hown.fresh⟩
   have:=hsl.trimmed (B:=10) (by omega) hsL
   rw [HV.out,List.take_of_length_le (by rw [hx.len];omega)] at this
   exact this
end Go.Proofs.YthhknjlmjefklaaGreatDoor
namespace Go.Proofs.YthhknjlmjefklaaGreatDoor
open Go.RowKit
theorem lval_cons10 (u R:Nat):Dec.lval 10 ([u]++Dec.limbs 10 R)=u+10 * R:=by
 show u+10 * Dec.lval 10 (Dec.limbs 10 R)=_
 rw [Dec.lval_limbs (by omega)]
theorem small_cons10 {u:Nat} (hu:u < 10) (R:Nat):Dec.Small 10 ([u]++Dec.limbs 10 R):=Dec.Small.cons hu (Dec.limbs_small (by omega) R)
theorem div_step10 {a b R u j:Nat} {q:List Nat} (hj:0 < j) (hja:j≤(Dec.limbs 10 a).length) (hjq:j≤q.length) (hu:(Dec.limbs 10 a).getD (j - 1) 0=u)
  (h:Dec.lval 10 ((Dec.limbs 10 a).drop j)=Dec.lval 10 (q.drop j) * b+R) :
  Dec.lval 10 ((Dec.limbs 10 a).drop (j - 1))=Dec.lval 10 ((q.set (j - 1) ((u+10 * R) / b)).drop (j - 1)) * b+(u+10 * R) % b:=by
 obtain ⟨m,rfl⟩:∃ m,j=m+1:=⟨j - 1,by omega⟩
 rw [Nat.add_sub_cancel] at hu ⊢
 rw [set_drop _ _ _ (by omega),Dec.lval_drop _ _ m (by omega),hu,Dec.lval]
 exact Dec.div_round h
def RetOver (a b:Nat) (w:World) (e:Ending) (w':World):Prop :=
 ∃ A n c A' n' c',e=.returned (.tuple #[.slice A n c,.slice A' n' c'])∧Sl w' .i64 A n c (Dec.limbs 10 (a / b))∧Sl w' .i64 A' n' c' (Dec.limbs 10 (a % b))∧Below w.heap.size w w'
theorem set_zero {q:List Nat} {i:Nat} (hz:q.getD i 0=0):q.set i 0=q:=by
 apply List.ext_getElem?
 intro k
 by_cases h:i=k
 ·subst h
  by_cases hi:i < q.length
  ·rw [List.getElem?_set_self hi,List.getElem?_eq_getElem hi]
   rw [List.getD_eq_getElem?_getD,List.getElem?_eq_getElem hi] at hz
   simpa using hz.symm
  ·rw [List.getElem?_eq_none (by simpa using hi),List.getElem?_eq_none (by omega)]
 ·rw [List.getElem?_set_ne h]
theorem below_apps1 {wr w2 : World} {o : Obj} (hblk : ∀ g, g < (wr.alloc o).heap.size → (some ⟨wr.heap.size, 0, none⟩ : Option Addr) ≠ some ⟨g, 0, none⟩ → w2.heap[g]? = (wr.alloc o).heap[g]?) (hsz : (wr.alloc o).heap.size ≤ w2.heap.size)
    (hos : w2.os = (wr.alloc o).os) (htp : w2.tape = (wr.alloc o).tape) (hou : w2.output = (wr.alloc o).output) : Below wr.heap.size wr w2 :=
  ⟨hos, htp, hou, by have : (wr.alloc o).heap.size = wr.heap.size + 1 := by simp
                     omega, fun g hg => (hblk g (by simp; omega) (by intro e; injection e with e; injection e with e; omega)).trans (Below.heap_alloc wr _ g hg)⟩
theorem over_step {R' R2 b t:Nat} (hb0:0 < b) (h:R2+t * b=R') (hlt:R2 < b):t=R' / b∧R2=R' % b:=by
 subst h
 exact ⟨by rw [Nat.add_mul_div_right _ _ hb0,Nat.div_eq_of_lt hlt,Nat.zero_add],by rw [Nat.add_mul_mod_self_right,Nat.mod_eq_of_lt hlt]⟩
theorem set_set (q:List Nat) (i x y:Nat):(q.set i x).set i y=q.set i y:=List.set_set x
theorem getD_set_self {q:List Nat} {i x:Nat} (h:i < q.length):(q.set i x).getD i 0=x:=by
 rw [List.getD_eq_getElem?_getD,List.getElem?_set_self h];rfl
set_option maxHeartbeats 2000000 in
set_option maxRecDepth 100000 in
theorem refOver_any (A A':Option Addr) (n n' c c' a b:Nat) (w:World) (hx:Sl w .i64 A n c (Dec.limbs 10 a)) (hy:Sl w .i64 A' n' c' (Dec.limbs 10 b)) (hn:n≤2500000) (hn':n'≤2500000) (hb0:0 < b) :
  Calls Tryz.prog 107 #[.slice A n c,.slice A' n' c'] w (RetOver a b w):=by
 have HLx:=Lib.hid hx.len
 have HLy:=Lib.hid hy.len
 go_enter Tryz.func107,Tryz.ntmps107
 go_wp2_with (at_make;refine wpList_mk (w0:=w) rfl _ _ _ rfl 3 .i64 8 Tryz.underlying175 infoInt (by omega) _ _ _ _ n rfl rfl (by omega) (by omega) (by omega) (Below.refl _ _) ?_;intro w1 hown1 hb1 hbW1 hsz1)
 go_loopw [7,8] (fun rv ix wr=>∃ (j R nr cr:Nat) (Ar:Option Addr) (q:List Nat),j≤n∧ix=.int .i64 ((j:Int) - 1)∧rv=.slice Ar nr cr∧Sl wr .i64 Ar nr cr (Dec.limbs 10 R)∧Hid (∀ b o,Ar=some ⟨b,o,none⟩→b≠w.heap.size)∧R < b∧Own wr w.heap.size 3 .i64 (some ⟨w.heap.size,0,none⟩) n n q∧Dec.Small 10 q∧Hid (∀ i,i < j→q.getD i 0=0)∧Hid (Dec.lval 10 ((Dec.limbs 10 a).drop j)=Dec.lval 10 (q.drop j) * b+R)∧Below w.heap.size w wr) (fun _ ix _=>(intOf ix+1).toNat)
 case atStart =>
  refine ⟨n,0,0,0,none,List.replicate n 0,Nat.le_refl _,rfl,rfl,Sl.nil _ _ _ _,Lib.hid (fun _ _ e=>by cases e),hb0,hown1,small_replicate _ _ (by omega),Lib.hid (fun i _=>getD_replicate n i),Lib.hid ?_,hb1⟩
  rw [List.drop_of_length_le (by rw [HLx.out];exact Nat.le_refl _),List.drop_of_length_le (by simp)];simp [Dec.lval]
 case round =>
  obtain ⟨j,R,nr,cr,Ar,q,hj,rfl,rfl,hsr,HA,hR,hown,hsq,HZ,HV,hb⟩:=hrel
  obtain ⟨wo,rfl⟩:∃ wo:World,wo=wr:=⟨_,rfl⟩
  have HLr:=Lib.hid hsr.len
  have hnr:nr≤n':=by
   rw [← HLr.out,← HLy.out];exact Dec.limbs_length_mono (by omega) (by omega)
  by_cases hj0:0 < j
  ·obtain ⟨bx,ox,rfl,hbx,hcx⟩:=(hx.below hb).cells (by omega)
   have hcu:=hcx (j - 1) (by omega)
   clear hcx
   have hu:=getD_lt (l:=Dec.limbs 10 a) (Dec.limbs_small (by omega) a) (by omega) (j - 1)
   generalize hu0:(Dec.limbs 10 a).getD (j - 1) 0=u at hcu hu
   have HU0:=Lib.hid hu0
   clear hu0
   have HQL:=Lib.hid hown.len
   have HST:=Lib.hid (div_step10 (b:=b) hj0 (by rw [HLx.out];exact hj) (by rw [HQL.out];exact hj) HU0.out HV.out)
   have hdg:(u+10 * R) / b < 10:=Dec.div_digit hu hR
   obtain ⟨R',hR'⟩:∃ R',R'=u+10 * R:=⟨_,rfl⟩
   rw [← hR'] at HST hdg
   have HR':=Lib.hid hR'
   clear hR'
   have hi1:(0:Int)≤(j:Int) - 1:=by omega
   have hi2:(j:Int) - 1 < n:=by omega
   have hi3:((j:Int) - 1).toNat=j - 1:=by omega
   have hoW:Own (wo.alloc (.cells #[.int .i64 (u:Int)] 3)) wo.heap.size 3 .i64 (some ⟨wo.heap.size,0,none⟩) 1 1 [u]:=⟨⟨rfl,.inr ⟨wo.heap.size,1,#[.int .i64 (u:Int)],rfl,Nat.le_refl _,heap_alloc_new wo _,Nat.le_refl _,by unfold maxLen;omega,rfl,rfl⟩⟩⟩
   have hsW:Sl (wo.alloc (.cells #[.int .i64 (u:Int)] 3)) .i64 Ar nr cr (Dec.limbs 10 R):=hsr.alloc _
   go_wp2_with (at_builtin;refine wpList_apps rfl _ _ _ rfl wo.heap.size 3 .i64 8 Tryz.underlying175 infoInt (by omega) _ _ _ [u] rfl hoW _ _ _ _ rfl hsW (by omega) (by simp) ?_;intro A2 cc2 w2 hown2 hblk2 hsz2 hos2 htp2 hou2)
   have hbw2:=below_apps1 hblk2 hsz2 hos2 htp2 hou2
   clear hblk2 hsz2 hos2 htp2 hou2
   refine (refTrim_any A2 (1+nr) cc2 _ w2 hown2.sl (by omega)).mono ?_
   rintro e w3 ⟨rfl,rfl⟩
   have hsl2:=hown2.sl.trimmed (B:=10) (by omega) (small_cons10 hu R)
   rw [lval_cons10,← HR'.out] at hsl2
   have hfr:=hown2.fresh
   have hq1:=(hown.lt rfl).2
   have htl:=trimZ_length_le ([u]++Dec.limbs 10 R)
   rw [List.length_append,HLr.out,List.length_singleton] at htl
   generalize (Dec.trimZ ([u]++Dec.limbs 10 R)).length=n2 at hsl2 htl
   have hw2:=hb.trans (hbw2.mono hb.size)
   have hownx:=hown.below hbw2
   have HQ0:=Lib.hid (set_zero (HZ.out (j - 1) (by omega)))
   rw [← HQ0.out] at hownx
   have HA2:Hid (∀ b o,A2=some ⟨b,o,none⟩→b≠w.heap.size):=fun b o e=>by have:=hfr b o e;omega
   clear hfr hown2 hoW hsW HA hsr hcu
   go_wp2_with fail
   go_loopg [7] R' (fun kx rv wr=>∃ (t R2 n3 c3:Nat) (A3:Option Addr),t≤R' / b∧Hid (R2+t * b=R')∧rv=.slice A3 n3 c3∧Sl wr .i64 A3 n3 c3 (Dec.limbs 10 R2)∧n3≤n'+1∧Hid (∀ b o,A3=some ⟨b,o,none⟩→b≠w.heap.size)∧Own wr w.heap.size 3 .i64 (some ⟨w.heap.size,0,none⟩) n n (q.set (j - 1) t)∧R2≤kx∧Below w.heap.size w wr)
   case atStart=>exact ⟨0,R',n2,cc2,A2,Nat.zero_le _,Lib.hid (by omega),rfl,hsl2,by omega,HA2,hownx,Nat.le_refl _,hw2⟩
   case round =>
    obtain ⟨t,R2,n3,c3,A3,ht,HT,rfl,hs3,hn3,HA3,hown3,hk3,hb3⟩:=hrel
    have HCm:=Lib.hid (orderR_any 10 (by omega) A3 A' n3 n' c3 c' R2 b wr hs3 (hy.below hb3) (by omega) (by omega))
    by_cases hge:R2 < b
    ·have HO:=Lib.hid (ordI_lt hge)
     have HE:=Lib.hid (over_step hb0 HT.out hge)
     go_wp2_with (go_at_call 143;refine HCm.out.mono ?_;rintro e w2 ⟨rfl,qq,rfl⟩;rw [HO.out])
     go_roundw
     case rel =>
      refine ⟨j - 1,R2,n3,c3,A3,q.set (j - 1) t,by omega,by go_num,rfl,hs3.drew qq,HA3,hge,hown3.drewN qq,hsq.set (by omega),Lib.hid (fun i hi=>by rw [getD_set_ne _ _ _ _ (by omega)];exact HZ.out i (by omega)),?_,below_drewN hb3 qq⟩
      have h:=HST.out
      rw [← HE.out.1,← HE.out.2] at h
      exact Lib.hid h
     case measure=>simp only [intOf];omega
    ·have hz:0≤ordI R2 b:=by
      rcases Nat.lt_or_ge b R2 with h | h
      ·rw [ordI_gt h];omega
      ·obtain rfl:R2=b:=by omega
       rw [ordI_eq];omega
     have ht1:t+1≤R' / b:=by
      rw [Nat.le_div_iff_mul_le hb0,← HT.out,Nat.add_mul];omega
     have hln:n'≤n3:=by rw [← HLy.out,← hs3.len];exact Dec.limbs_length_mono (by omega) (by omega)
     have HM:Hid (∀ qq:Nat,Calls Tryz.prog 144 #[.slice A3 n3 c3,.slice A' n' c'] (wr.drewN qq) (RetSl .i64 (Dec.limbs 10 (R2 - b)) (wr.drewN qq))):=fun qq=>by
      have:=refMinus_any A3 A' n3 n' c3 c' _ _ (wr.drewN qq) (hs3.drew qq) ((hy.below hb3).drew qq) (by omega) hln (Dec.limbs_small (by omega) _) (Dec.limbs_small (by omega) _) (by rw [Dec.lval_limbs (by omega),Dec.lval_limbs (by omega)];omega)
      rwa [Dec.lval_limbs (by omega),Dec.lval_limbs (by omega)] at this
     have hll:(Dec.limbs 10 (R2 - b)).length≤n3:=by rw [← hs3.len];exact Dec.limbs_length_mono (by omega) (by omega)
     have HOr:=Lib.hid hown3
     have hl3:=(hown3.lt rfl).2
     go_wp2_with (go_at_call 143;refine HCm.out.mono ?_;rintro e w2 ⟨rfl,qq,rfl⟩)
     refine (HM.out _).mono ?_
     rintro e w4 ⟨A4,n4,c4,rfl,hs4,hb4,hf4⟩
     have hn4:n4≤n3:=by rw [← hs4.len];exact hll
     have hb4':=(below_drewN hb3 qq).trans (hb4.mono (below_drewN hb3 qq).size)
     have hown4:=(HOr.out.drewN qq).below hb4
     obtain ⟨hco,hfo,_,hgl⟩:=hown4.cellAt (i:=j - 1) (by omega)
     rw [getD_set_self (by rw [HQL.out];omega)] at hco
     have HA4:Hid (∀ b o,A4=some ⟨b,o,none⟩→b≠w.heap.size):=fun b o e=>by have h1:=hf4 b o e;have h2:(wr.drewN qq).heap.size=wr.heap.size:=rfl;omega
     clear hf4
     go_wp2
     go_roundg (R2 - b)
     case measure=>omega
     case rel =>
      refine ⟨t+1,R2 - b,n4,c4,A4,ht1,Lib.hid (by have:=HT.out;rw [Nat.add_mul];omega),rfl,hs4.far (p:=⟨w.heap.size,j - 1,none⟩) (fun b o e=>HA4.out b o e) _,by omega,HA4,?_,Nat.le_refl _,hb4'.setCell (p:=⟨w.heap.size,j - 1,none⟩) (Nat.le_refl _) _⟩
      exact hown4.setInt (y:=t+1) (by omega) (set_set _ _ _ _)
  ·have hjz:j=0:=by omega
   subst hjz
   have HQ:Hid (Dec.lval 10 q=a / b∧R=a % b):=by
    have h:=HV.out
    rw [List.drop_zero,List.drop_zero,Dec.lval_limbs (by omega)] at h
    show _∧_
    rw [h]
    exact ⟨by rw [Nat.add_comm,Nat.add_mul_div_right _ _ hb0,Nat.div_eq_of_lt hR,Nat.zero_add],by rw [Nat.add_comm,Nat.add_mul_mod_self_right,Nat.mod_eq_of_lt hR]⟩
   have hslq:=hown.sl
   go_wp2_with fail
   refine (refTrim_any _ _ _ _ _ hslq (by omega)).mono ?_
   rintro e w3 ⟨rfl,rfl⟩
   go_wp2
   go_ret2
   refine ⟨_,_,_,_,_,_,rfl,?_,?_,hb⟩
   ·have:=hslq.trimmed (B:=10) (by omega) hsq
    rw [HQ.out.1] at this
    exact this
   ·rw [← HQ.out.2];exact hsr
end Go.Proofs.YthhknjlmjefklaaGreatDoor
namespace Go.Proofs.YthhknjlmjefklaaGreatDoor
open Go.RowKit
theorem length10_mul {a b n n':Nat} (h:(Dec.limbs 10 a).length=n) (h':(Dec.limbs 10 b).length=n'):(Dec.limbs 10 (a * b)).length≤n+n':=by
 apply Dec.limbs_lt_length (by omega)
 rw [Nat.pow_add]
 have h1:=Dec.lval_lt (B:=10) (by omega) (Dec.limbs_small (by omega) a)
 have h2:=Dec.lval_lt (B:=10) (by omega) (Dec.limbs_small (by omega) b)
 rw [Dec.lval_limbs (by omega),h] at h1
 rw [Dec.lval_limbs (by omega),h'] at h2
 rcases Nat.eq_zero_or_pos b with e | e
 ·subst e;rw [Nat.mul_zero];exact Nat.mul_pos (Nat.pow_pos (by omega)) (Nat.pow_pos (by omega))
 ·exact Nat.mul_lt_mul'' h1 h2
theorem neg_sign (x:Int):(if (!decide (x < 0))=true then -(x.natAbs:Int) else x.natAbs)=-x:=by
 by_cases h:x < 0
 ·rw [if_neg (by simpa using h)];omega
 ·rw [if_pos (by simpa using h)];omega
theorem refDigW (l:List UInt8) (hl:l.length≤2500000) (w:World):Calls Tryz.prog 105 #[.string ⟨l.toArray⟩] w (RetDig (l.length+1) (Dec.dval l) w):=refDigits_any l w hl
theorem refTextV (ng:Bool) (A:Option Addr) (n c v:Nat) (r:Int) (w:World) (hx:Sl w .i64 A n c (Dec.limbs 10 v)) (hn:n≤100000000) (hv:(if ng then -(v:Int) else v)=r) :
  Calls Tryz.prog 108 #[.bool ng,.slice A n c] w (RetStr (Lib.itoa r) w):=by
 have:=refText_any ng A n c _ w hx hn (Dec.limbs_small (by omega) v)
 rw [Dec.lval_limbs (by omega),numStr_eq hv] at this
 exact this
set_option maxHeartbeats 1000000 in
theorem refNegate_any (l:List UInt8) (w:World) (hl:l.length≤2500000) :
  Calls Tryz.prog 197 #[.string ⟨l.toArray⟩] w (RetStr (Lib.itoa (-(Dec.dval l))) w):=by
 have HD:=Lib.hid (refDigW l hl w)
 generalize Dec.dval l=x at *
 have HN:=Lib.hid (neg_sign x)
 obtain ⟨s,hs⟩:∃ s,s=decide (x < 0):=⟨_,rfl⟩
 have HS:=Lib.hid hs
 rw [← hs] at HN
 clear hs
 go_enter Tryz.func197,Tryz.ntmps197
 go_wp2_with fail
 refine HD.out.mono ?_
 rintro e w1 ⟨A1,n1,c1,rfl,hs1,hn1,hb1⟩
 rw [← HS.out]
 go_wp2_with fail
 refine (refTextV _ A1 n1 c1 _ _ _ hs1 (by omega) HN.out).mono ?_
 rintro e w2 ⟨rfl,hb2⟩
 go_wp2
 go_ret
 exact ⟨rfl,hb1.trans (hb2.mono hb1.size)⟩
set_option maxHeartbeats 1000000 in
theorem refCompare_any (a b:List UInt8) (w:World) (ha:a.length≤2500000) (hb:b.length≤2500000) :
  Calls Tryz.prog 233 #[.string ⟨a.toArray⟩,.string ⟨b.toArray⟩] w (RetI64 (cmpI (Dec.dval a) (Dec.dval b)) w):=by
 have HP1:Hid (∀ w':World,Calls Tryz.prog 105 #[.string ⟨a.toArray⟩] w' (RetDig (a.length+1) (Dec.dval a) w')):=fun w'=>refDigW a ha w'
 have HP2:Hid (∀ w':World,Calls Tryz.prog 105 #[.string ⟨b.toArray⟩] w' (RetDig (b.length+1) (Dec.dval b) w')):=fun w'=>refDigW b hb w'
 generalize Dec.dval a=x at HP1
 generalize Dec.dval b=y at HP2
 by_cases hx:x < 0 <;> by_cases hy:y < 0
 ·have HF:=Lib.hid (cmpI_neg hx hy)
  go_enter Tryz.func233,Tryz.ntmps233
  go_wp2_with fail
  refine (HP1.out _).mono ?_
  rintro e w1 ⟨A1,n1,c1,rfl,hs1,hn1,hb1⟩
  rw [decide_eq_true hx]
  go_wp2_with fail
  refine (HP2.out _).mono ?_
  rintro e w2 ⟨A2,n2,c2,rfl,hs2,hn2,hb2⟩
  rw [decide_eq_true hy]
  have hbw2:Below w.heap.size w w2:=hb1.trans (hb2.mono hb1.size)
  have HC:=Lib.hid (orderR_any 10 (by omega) A2 A1 n2 n1 c2 c1 _ _ w2 hs2 (hs1.below hb2) (by omega) (by omega))
  go_wp2_with (go_at_call 143;refine HC.out.mono ?_;rintro e w3 ⟨rfl,q,rfl⟩)
  go_ret
  exact ⟨by rw [← HF.out];rfl,below_drewN hbw2 q⟩
 ·have HF:=Lib.hid (cmpI_lt (a:=x) (b:=y) (by omega))
  go_enter Tryz.func233,Tryz.ntmps233
  go_wp2_with fail
  refine (HP1.out _).mono ?_
  rintro e w1 ⟨A1,n1,c1,rfl,hs1,hn1,hb1⟩
  rw [decide_eq_true hx]
  go_wp2_with fail
  refine (HP2.out _).mono ?_
  rintro e w2 ⟨A2,n2,c2,rfl,hs2,hn2,hb2⟩
  rw [decide_eq_false (by omega)]
  have hbw2:Below w.heap.size w w2:=hb1.trans (hb2.mono hb1.size)
  go_wp2
  go_ret
  exact ⟨by rw [HF.out];rfl,hbw2⟩
 ·have HF:=Lib.hid (cmpI_gt (a:=x) (b:=y) (by omega))
  go_enter Tryz.func233,Tryz.ntmps233
  go_wp2_with fail
  refine (HP1.out _).mono ?_
  rintro e w1 ⟨A1,n1,c1,rfl,hs1,hn1,hb1⟩
  rw [decide_eq_false (by omega)]
  go_wp2_with fail
  refine (HP2.out _).mono ?_
  rintro e w2 ⟨A2,n2,c2,rfl,hs2,hn2,hb2⟩
  rw [decide_eq_true hy]
  have hbw2:Below w.heap.size w w2:=hb1.trans (hb2.mono hb1.size)
  go_wp2
  go_ret
  exact ⟨by rw [HF.out];rfl,hbw2⟩
 ·have HF:=Lib.hid (cmpI_pos hx hy)
  go_enter Tryz.func233,Tryz.ntmps233
  go_wp2_with fail
  refine (HP1.out _).mono ?_
  rintro e w1 ⟨A1,n1,c1,rfl,hs1,hn1,hb1⟩
  rw [decide_eq_false (by omega)]
  go_wp2_with fail
  refine (HP2.out _).mono ?_
  rintro e w2 ⟨A2,n2,c2,rfl,hs2,hn2,hb2⟩
  rw [decide_eq_false (by omega)]
  have hbw2:Below w.heap.size w w2:=hb1.trans (hb2.mono hb1.size)
  have HC:=Lib.hid (orderR_any 10 (by omega) A1 A2 n1 n2 c1 c2 _ _ w2 (hs1.below hb2) hs2 (by omega) (by omega))
  go_wp2_with (go_at_call 143;refine HC.out.mono ?_;rintro e w3 ⟨rfl,q,rfl⟩)
  go_ret
  exact ⟨by rw [← HF.out];rfl,below_drewN hbw2 q⟩
set_option maxHeartbeats 2000000 in
theorem refAdd_any (a b:List UInt8) (w:World) (ha:a.length≤2500000) (hb:b.length≤2500000) :
  Calls Tryz.prog 199 #[.string ⟨a.toArray⟩,.string ⟨b.toArray⟩] w (RetStr (Lib.itoa (Dec.dval a+Dec.dval b)) w):=by
 have HP1:Hid (∀ w':World,Calls Tryz.prog 105 #[.string ⟨a.toArray⟩] w' (RetDig (a.length+1) (Dec.dval a) w')):=fun w'=>refDigW a ha w'
 have HP2:Hid (∀ w':World,Calls Tryz.prog 105 #[.string ⟨b.toArray⟩] w' (RetDig (b.length+1) (Dec.dval b) w')):=fun w'=>refDigW b hb w'
 generalize Dec.dval a=x at HP1
 generalize Dec.dval b=y at HP2
 by_cases hx:x < 0 <;> by_cases hy:y < 0
 ·go_enter Tryz.func199,Tryz.ntmps199
  go_wp2_with fail
  refine (HP1.out _).mono ?_
  rintro e w1 ⟨A1,n1,c1,rfl,hs1,hn1,hb1⟩
  rw [decide_eq_true hx]
  go_wp2_with fail
  refine (HP2.out _).mono ?_
  rintro e w2 ⟨A2,n2,c2,rfl,hs2,hn2,hb2⟩
  rw [decide_eq_true hy]
  have hbw2:Below w.heap.size w w2:=hb1.trans (hb2.mono hb1.size)
  have hP:=refPlus_any A1 A2 n1 n2 c1 c2 _ _ w2 (hs1.below hb2) hs2 (by omega) (by omega) (Dec.limbs_small (by omega) _) (Dec.limbs_small (by omega) _)
  rw [Dec.lval_limbs (by omega),Dec.lval_limbs (by omega)] at hP
  have HP:=Lib.hid hP
  clear hP
  go_wp2_with fail
  refine HP.out.mono ?_
  rintro e w3 ⟨A3,n3,c3,o3,rfl,hn3,hs3,hso3,hv3,hb3,_⟩
  have hbw3:=hbw2.trans (hb3.mono hbw2.size)
  have hX:=refText_any true A3 n3 c3 o3 w3 hs3 (by omega) hso3
  rw [hv3,numStr_eq (v:=x+y) (by simp;omega)] at hX
  have HX:=Lib.hid hX
  clear hX hv3
  go_wp2_with fail
  refine HX.out.mono ?_
  rintro e w4 ⟨rfl,hb4⟩
  go_wp2
  go_ret
  exact ⟨rfl,hbw3.trans (hb4.mono hbw3.size)⟩
 ·go_enter Tryz.func199,Tryz.ntmps199
  go_wp2_with fail
  refine (HP1.out _).mono ?_
  rintro e w1 ⟨A1,n1,c1,rfl,hs1,hn1,hb1⟩
  rw [decide_eq_true hx]
  go_wp2_with fail
  refine (HP2.out _).mono ?_
  rintro e w2 ⟨A2,n2,c2,rfl,hs2,hn2,hb2⟩
  rw [decide_eq_false (by omega)]
  have hbw2:Below w.heap.size w w2:=hb1.trans (hb2.mono hb1.size)
  have HC:=Lib.hid (orderR_any 10 (by omega) A1 A2 n1 n2 c1 c2 _ _ w2 (hs1.below hb2) hs2 (by omega) (by omega))
  rcases Nat.lt_or_ge x.natAbs y.natAbs with h | h
  ·have HO:=Lib.hid (ordI_lt h)
   have hln:n1≤n2:=by rw [← hs1.len,← hs2.len];exact Dec.limbs_length_mono (by omega) (by omega)
   have hM:∀ qq:Nat,Calls Tryz.prog 144 #[.slice A2 n2 c2,.slice A1 n1 c1] (w2.drewN qq) (RetSl .i64 (Dec.limbs 10 (y.natAbs - x.natAbs)) (w2.drewN qq)):=fun qq=>by
    have:=refMinus_any A2 A1 n2 n1 c2 c1 _ _ (w2.drewN qq) (hs2.drew qq) ((hs1.below hb2).drew qq) (by omega) hln (Dec.limbs_small (by omega) _) (Dec.limbs_small (by omega) _) (by rw [Dec.lval_limbs (by omega),Dec.lval_limbs (by omega)];omega)
    rwa [Dec.lval_limbs (by omega),Dec.lval_limbs (by omega)] at this
   have HM:=Lib.hid hM
   clear hM
   have hll:(Dec.limbs 10 (y.natAbs - x.natAbs)).length≤n2:=by rw [← hs2.len];exact Dec.limbs_length_mono (by omega) (by omega)
   go_wp2_with (go_at_call 143;refine HC.out.mono ?_;rintro e w3 ⟨rfl,q,rfl⟩;rw [HO.out])
   refine (HM.out _).mono ?_
   rintro e w3 ⟨A3,n3,c3,rfl,hs3,hb3,_⟩
   have hbw3:=(below_drewN hbw2 q).trans (hb3.mono (below_drewN hbw2 q).size)
   have hn3:n3≤n2:=by rw [← hs3.len];exact hll
   go_wp2_with fail
   refine (refTextV false A3 n3 c3 _ (x+y) _ hs3 (by omega) (by simp;omega)).mono ?_
   rintro e w4 ⟨rfl,hb4⟩
   go_wp2
   go_ret
   exact ⟨rfl,hbw3.trans (hb4.mono hbw3.size)⟩
  ·rcases Nat.lt_or_eq_of_le h with h2 | h2
   ·have HO:=Lib.hid (ordI_gt h2)
    have hln:n2≤n1:=by rw [← hs2.len,← hs1.len];exact Dec.limbs_length_mono (by omega) (by omega)
    have hM:∀ qq:Nat,Calls Tryz.prog 144 #[.slice A1 n1 c1,.slice A2 n2 c2] (w2.drewN qq) (RetSl .i64 (Dec.limbs 10 (x.natAbs - y.natAbs)) (w2.drewN qq)):=fun qq=>by
     have:=refMinus_any A1 A2 n1 n2 c1 c2 _ _ (w2.drewN qq) ((hs1.below hb2).drew qq) (hs2.drew qq) (by omega) hln (Dec.limbs_small (by omega) _) (Dec.limbs_small (by omega) _) (by rw [Dec.lval_limbs (by omega),Dec.lval_limbs (by omega)];omega)
     rwa [Dec.lval_limbs (by omega),Dec.lval_limbs (by omega)] at this
    have HM:=Lib.hid hM
    clear hM
    have hll:(Dec.limbs 10 (x.natAbs - y.natAbs)).length≤n1:=by rw [← hs1.len];exact Dec.limbs_length_mono (by omega) (by omega)
    go_wp2_with (go_at_call 143;refine HC.out.mono ?_;rintro e w3 ⟨rfl,q,rfl⟩;rw [HO.out])
    refine (HM.out _).mono ?_
    rintro e w3 ⟨A3,n3,c3,rfl,hs3,hb3,_⟩
    have hbw3:=(below_drewN hbw2 q).trans (hb3.mono (below_drewN hbw2 q).size)
    have hn3:n3≤n1:=by rw [← hs3.len];exact hll
    go_wp2_with fail
    refine (refTextV true A3 n3 c3 _ (x+y) _ hs3 (by omega) (by simp;omega)).mono ?_
    rintro e w4 ⟨rfl,hb4⟩
    go_wp2
    go_ret
    exact ⟨rfl,hbw3.trans (hb4.mono hbw3.size)⟩
   ·have HO:Hid (ordI x.natAbs y.natAbs=0):=by rw [h2];exact ordI_eq _
    have HH:=Lib.hid h2
    clear h2
    have hln:n2≤n1:=by rw [← hs2.len,← hs1.len];exact Dec.limbs_length_mono (by omega) (by omega)
    have hM:∀ qq:Nat,Calls Tryz.prog 144 #[.slice A1 n1 c1,.slice A2 n2 c2] (w2.drewN qq) (RetSl .i64 (Dec.limbs 10 (x.natAbs - y.natAbs)) (w2.drewN qq)):=fun qq=>by
     have:=refMinus_any A1 A2 n1 n2 c1 c2 _ _ (w2.drewN qq) ((hs1.below hb2).drew qq) (hs2.drew qq) (by omega) hln (Dec.limbs_small (by omega) _) (Dec.limbs_small (by omega) _) (by rw [Dec.lval_limbs (by omega),Dec.lval_limbs (by omega)];omega)
     rwa [Dec.lval_limbs (by omega),Dec.lval_limbs (by omega)] at this
    have HM:=Lib.hid hM
    clear hM
    have hll:(Dec.limbs 10 (x.natAbs - y.natAbs)).length≤n1:=by rw [← hs1.len];exact Dec.limbs_length_mono (by omega) (by omega)
    go_wp2_with (go_at_call 143;refine HC.out.mono ?_;rintro e w3 ⟨rfl,q,rfl⟩;rw [HO.out])
    refine (HM.out _).mono ?_
    rintro e w3 ⟨A3,n3,c3,rfl,hs3,hb3,_⟩
    have hbw3:=(below_drewN hbw2 q).trans (hb3.mono (below_drewN hbw2 q).size)
    have hn3:n3≤n1:=by rw [← hs3.len];exact hll
    go_wp2_with fail
    refine (refTextV true A3 n3 c3 _ (x+y) _ hs3 (by omega) (by have:=HH.out;simp;omega)).mono ?_
    rintro e w4 ⟨rfl,hb4⟩
    go_wp2
    go_ret
    exact ⟨rfl,hbw3.trans (hb4.mono hbw3.size)⟩
 ·go_enter Tryz.func199,Tryz.ntmps199
  go_wp2_with fail
  refine (HP1.out _).mono ?_
  rintro e w1 ⟨A1,n1,c1,rfl,hs1,hn1,hb1⟩
  rw [decide_eq_false (by omega)]
  go_wp2_with fail
  refine (HP2.out _).mono ?_
  rintro e w2 ⟨A2,n2,c2,rfl,hs2,hn2,hb2⟩
  rw [decide_eq_true hy]
  have hbw2:Below w.heap.size w w2:=hb1.trans (hb2.mono hb1.size)
  have HC:=Lib.hid (orderR_any 10 (by omega) A1 A2 n1 n2 c1 c2 _ _ w2 (hs1.below hb2) hs2 (by omega) (by omega))
  rcases Nat.lt_or_ge x.natAbs y.natAbs with h | h
  ·have HO:=Lib.hid (ordI_lt h)
   have hln:n1≤n2:=by rw [← hs1.len,← hs2.len];exact Dec.limbs_length_mono (by omega) (by omega)
   have hM:∀ qq:Nat,Calls Tryz.prog 144 #[.slice A2 n2 c2,.slice A1 n1 c1] (w2.drewN qq) (RetSl .i64 (Dec.limbs 10 (y.natAbs - x.natAbs)) (w2.drewN qq)):=fun qq=>by
    have:=refMinus_any A2 A1 n2 n1 c2 c1 _ _ (w2.drewN qq) (hs2.drew qq) ((hs1.below hb2).drew qq) (by omega) hln (Dec.limbs_small (by omega) _) (Dec.limbs_small (by omega) _) (by rw [Dec.lval_limbs (by omega),Dec.lval_limbs (by omega)];omega)
    rwa [Dec.lval_limbs (by omega),Dec.lval_limbs (by omega)] at this
   have HM:=Lib.hid hM
   clear hM
   have hll:(Dec.limbs 10 (y.natAbs - x.natAbs)).length≤n2:=by rw [← hs2.len];exact Dec.limbs_length_mono (by omega) (by omega)
   go_wp2_with (go_at_call 143;refine HC.out.mono ?_;rintro e w3 ⟨rfl,q,rfl⟩;rw [HO.out])
   refine (HM.out _).mono ?_
   rintro e w3 ⟨A3,n3,c3,rfl,hs3,hb3,_⟩
   have hbw3:=(below_drewN hbw2 q).trans (hb3.mono (below_drewN hbw2 q).size)
   have hn3:n3≤n2:=by rw [← hs3.len];exact hll
   go_wp2_with fail
   refine (refTextV true A3 n3 c3 _ (x+y) _ hs3 (by omega) (by simp;omega)).mono ?_
   rintro e w4 ⟨rfl,hb4⟩
   go_wp2
   go_ret
   exact ⟨rfl,hbw3.trans (hb4.mono hbw3.size)⟩
  ·rcases Nat.lt_or_eq_of_le h with h2 | h2
   ·have HO:=Lib.hid (ordI_gt h2)
    have hln:n2≤n1:=by rw [← hs2.len,← hs1.len];exact Dec.limbs_length_mono (by omega) (by omega)
    have hM:∀ qq:Nat,Calls Tryz.prog 144 #[.slice A1 n1 c1,.slice A2 n2 c2] (w2.drewN qq) (RetSl .i64 (Dec.limbs 10 (x.natAbs - y.natAbs)) (w2.drewN qq)):=fun qq=>by
     have:=refMinus_any A1 A2 n1 n2 c1 c2 _ _ (w2.drewN qq) ((hs1.below hb2).drew qq) (hs2.drew qq) (by omega) hln (Dec.limbs_small (by omega) _) (Dec.limbs_small (by omega) _) (by rw [Dec.lval_limbs (by omega),Dec.lval_limbs (by omega)];omega)
     rwa [Dec.lval_limbs (by omega),Dec.lval_limbs (by omega)] at this
    have HM:=Lib.hid hM
    clear hM
    have hll:(Dec.limbs 10 (x.natAbs - y.natAbs)).length≤n1:=by rw [← hs1.len];exact Dec.limbs_length_mono (by omega) (by omega)
    go_wp2_with (go_at_call 143;refine HC.out.mono ?_;rintro e w3 ⟨rfl,q,rfl⟩;rw [HO.out])
    refine (HM.out _).mono ?_
    rintro e w3 ⟨A3,n3,c3,rfl,hs3,hb3,_⟩
    have hbw3:=(below_drewN hbw2 q).trans (hb3.mono (below_drewN hbw2 q).size)
    have hn3:n3≤n1:=by rw [← hs3.len];exact hll
    go_wp2_with fail
    refine (refTextV false A3 n3 c3 _ (x+y) _ hs3 (by omega) (by simp;omega)).mono ?_
    rintro e w4 ⟨rfl,hb4⟩
    go_wp2
    go_ret
    exact ⟨rfl,hbw3.trans (hb4.mono hbw3.size)⟩
   ·have HO:Hid (ordI x.natAbs y.natAbs=0):=by rw [h2];exact ordI_eq _
    have HH:=Lib.hid h2
    clear h2
    have hln:n2≤n1:=by rw [← hs2.len,← hs1.len];exact Dec.limbs_length_mono (by omega) (by omega)
    have hM:∀ qq:Nat,Calls Tryz.prog 144 #[.slice A1 n1 c1,.slice A2 n2 c2] (w2.drewN qq) (RetSl .i64 (Dec.limbs 10 (x.natAbs - y.natAbs)) (w2.drewN qq)):=fun qq=>by
     have:=refMinus_any A1 A2 n1 n2 c1 c2 _ _ (w2.drewN qq) ((hs1.below hb2).drew qq) (hs2.drew qq) (by omega) hln (Dec.limbs_small (by omega) _) (Dec.limbs_small (by omega) _) (by rw [Dec.lval_limbs (by omega),Dec.lval_limbs (by omega)];omega)
     rwa [Dec.lval_limbs (by omega),Dec.lval_limbs (by omega)] at this
    have HM:=Lib.hid hM
    clear hM
    have hll:(Dec.limbs 10 (x.natAbs - y.natAbs)).length≤n1:=by rw [← hs1.len];exact Dec.limbs_length_mono (by omega) (by omega)
    go_wp2_with (go_at_call 143;refine HC.out.mono ?_;rintro e w3 ⟨rfl,q,rfl⟩;rw [HO.out])
    refine (HM.out _).mono ?_
    rintro e w3 ⟨A3,n3,c3,rfl,hs3,hb3,_⟩
    have hbw3:=(below_drewN hbw2 q).trans (hb3.mono (below_drewN hbw2 q).size)
    have hn3:n3≤n1:=by rw [← hs3.len];exact hll
    go_wp2_with fail
    refine (refTextV false A3 n3 c3 _ (x+y) _ hs3 (by omega) (by have:=HH.out;simp;omega)).mono ?_
    rintro e w4 ⟨rfl,hb4⟩
    go_wp2
    go_ret
    exact ⟨rfl,hbw3.trans (hb4.mono hbw3.size)⟩
 ·go_enter Tryz.func199,Tryz.ntmps199
  go_wp2_with fail
  refine (HP1.out _).mono ?_
  rintro e w1 ⟨A1,n1,c1,rfl,hs1,hn1,hb1⟩
  rw [decide_eq_false (by omega)]
  go_wp2_with fail
  refine (HP2.out _).mono ?_
  rintro e w2 ⟨A2,n2,c2,rfl,hs2,hn2,hb2⟩
  rw [decide_eq_false (by omega)]
  have hbw2:Below w.heap.size w w2:=hb1.trans (hb2.mono hb1.size)
  have hP:=refPlus_any A1 A2 n1 n2 c1 c2 _ _ w2 (hs1.below hb2) hs2 (by omega) (by omega) (Dec.limbs_small (by omega) _) (Dec.limbs_small (by omega) _)
  rw [Dec.lval_limbs (by omega),Dec.lval_limbs (by omega)] at hP
  have HP:=Lib.hid hP
  clear hP
  go_wp2_with fail
  refine HP.out.mono ?_
  rintro e w3 ⟨A3,n3,c3,o3,rfl,hn3,hs3,hso3,hv3,hb3,_⟩
  have hbw3:=hbw2.trans (hb3.mono hbw2.size)
  have hX:=refText_any false A3 n3 c3 o3 w3 hs3 (by omega) hso3
  rw [hv3,numStr_eq (v:=x+y) (by simp;omega)] at hX
  have HX:=Lib.hid hX
  clear hX hv3
  go_wp2_with fail
  refine HX.out.mono ?_
  rintro e w4 ⟨rfl,hb4⟩
  go_wp2
  go_ret
  exact ⟨rfl,hbw3.trans (hb4.mono hbw3.size)⟩
set_option maxHeartbeats 2000000 in
theorem refMul_any (a b:List UInt8) (w:World) (ha:a.length≤2500000) (hb:b.length≤2500000) :
  Calls Tryz.prog 200 #[.string ⟨a.toArray⟩,.string ⟨b.toArray⟩] w (RetStr (Lib.itoa (Dec.dval a * Dec.dval b)) w):=by
 have HP1:Hid (∀ w':World,Calls Tryz.prog 105 #[.string ⟨a.toArray⟩] w' (RetDig (a.length+1) (Dec.dval a) w')):=fun w'=>refDigW a ha w'
 have HP2:Hid (∀ w':World,Calls Tryz.prog 105 #[.string ⟨b.toArray⟩] w' (RetDig (b.length+1) (Dec.dval b) w')):=fun w'=>refDigW b hb w'
 generalize Dec.dval a=x at HP1
 generalize Dec.dval b=y at HP2
 have hms:(if (!(decide (x < 0) == decide (y < 0)))=true then -((x.natAbs * y.natAbs:Nat):Int) else ((x.natAbs * y.natAbs:Nat):Int))=x * y:=mul_sign x y
 obtain ⟨s,hsd⟩:∃ s,s=decide (x < 0):=⟨_,rfl⟩
 obtain ⟨s',hsd'⟩:∃ s',s'=decide (y < 0):=⟨_,rfl⟩
 rw [← hsd,← hsd'] at hms
 have HSD:=Lib.hid hsd
 have HSD':=Lib.hid hsd'
 clear hsd hsd'
 obtain ⟨z,hz⟩:∃ z,z=(!(s == s')):=⟨_,rfl⟩
 rw [← hz] at hms
 have HMS:=Lib.hid hms
 have hz':(!(s == s'))=z:=hz.symm
 clear hz hms
 go_enter Tryz.func200,Tryz.ntmps200
 go_wp2_with fail
 refine (HP1.out _).mono ?_
 rintro e w1 ⟨A1,n1,c1,rfl,hs1,hn1,hb1⟩
 rw [← HSD.out]
 go_wp2_with fail
 refine (HP2.out _).mono ?_
 rintro e w2 ⟨A2,n2,c2,rfl,hs2,hn2,hb2⟩
 rw [← HSD'.out]
 have hbw2:Below w.heap.size w w2:=hb1.trans (hb2.mono hb1.size)
 have hl:=length10_mul hs1.len hs2.len
 have hT:=refTimes_any A1 A2 n1 n2 c1 c2 _ _ w2 (hs1.below hb2) hs2 (by omega) (by omega) (Dec.limbs_small (by omega) _) (Dec.limbs_small (by omega) _)
 rw [Dec.lval_limbs (by omega),Dec.lval_limbs (by omega)] at hT
 have HT:=Lib.hid hT
 clear hT
 go_wp2_with fail
 refine HT.out.mono ?_
 rintro e w3 ⟨A3,n3,c3,rfl,hs3,hb3,_⟩
 have hbw3:=hbw2.trans (hb3.mono hbw2.size)
 have hn3:n3≤n1+n2:=by rw [← hs3.len];exact hl
 go_wp2_with fail
 refine (refTextV z A3 n3 c3 _ _ _ hs3 (by omega) HMS.out).mono ?_
 rintro e w4 ⟨rfl,hb4⟩
 go_wp2
 go_ret
 exact ⟨rfl,hbw3.trans (hb4.mono hbw3.size)⟩
end Go.Proofs.YthhknjlmjefklaaGreatDoor
namespace Go.Proofs.YthhknjlmjefklaaGreatDoor
open Go.RowKit
theorem natAbs10 {x:Int} {n:Nat} (h:(Dec.limbs 10 x.natAbs).length=n):n=0↔x=0:=by
 subst h
 constructor
 ·intro h
  have:=(Dec.limbs_eq_nil (B:=10) (by omega)).1 (List.eq_nil_of_length_eq_zero h)
  omega
 ·rintro rfl;rfl
theorem limbs10_pos {v n:Nat} (h:(Dec.limbs 10 v).length=n) (h0:n≠0):0 < v:=by
 rcases Nat.eq_zero_or_pos v with e | e
 ·subst e;rw [Dec.limbs_zero] at h;simp at h;omega
 ·exact e
theorem length10_div {a b n:Nat} (h:(Dec.limbs 10 a).length=n):(Dec.limbs 10 (a / b)).length≤n:=by
 rw [← h];exact Dec.limbs_length_mono (by omega) (Nat.div_le_self a b)
theorem length10_mod {a b n:Nat} (hb:0 < b) (h:(Dec.limbs 10 b).length=n):(Dec.limbs 10 (a % b)).length≤n:=by
 rw [← h];exact Dec.limbs_length_mono (by omega) (Nat.le_of_lt (Nat.mod_lt a hb))
theorem refTextN (ng:Bool) (A:Option Addr) (n c v:Nat) (l:List UInt8) (w:World) (hx:Sl w .i64 A n c (Dec.limbs 10 v)) (hn:n≤100000000) (hv:numStr ng v=l) :
  Calls Tryz.prog 108 #[.bool ng,.slice A n c] w (RetStr l w):=by
 have:=refText_any ng A n c _ w hx hn (Dec.limbs_small (by omega) v)
 rw [Dec.lval_limbs (by omega),hv] at this
 exact this
set_option maxHeartbeats 1000000 in
theorem refDiv_zero (a b:List UInt8) (w:World) (ha:a.length≤2400000) (hb:b.length≤2400000) (hy0:Dec.dval b=0) :
  Calls Tryz.prog 150 #[.string ⟨a.toArray⟩,.string ⟨b.toArray⟩] w (RetStr2 [48] (Lib.itoa (Dec.dval a)) w):=by
 have HP1:Hid (∀ w':World,Calls Tryz.prog 105 #[.string ⟨a.toArray⟩] w' (RetDig (a.length+1) (Dec.dval a) w')):=fun w'=>refDigW a (by omega) w'
 have HP2:Hid (∀ w':World,Calls Tryz.prog 105 #[.string ⟨b.toArray⟩] w' (RetDig (b.length+1) 0 w')):=fun w'=>by have:=refDigW b (by omega) w';rwa [hy0] at this
 clear hy0
 generalize Dec.dval a=x at *
 obtain ⟨s,hsd⟩:∃ s,s=decide (x < 0):=⟨_,rfl⟩
 have HSD:=Lib.hid hsd
 clear hsd
 go_enter Tryz.func150,Tryz.ntmps150
 go_wp2_with fail
 refine (HP1.out _).mono ?_
 rintro e w1 ⟨A1,n1,c1,rfl,hs1,hn1,hb1⟩
 rw [← HSD.out]
 go_wp2_with fail
 refine (HP2.out _).mono ?_
 rintro e w2 ⟨A2,n2,c2,rfl,hs2,hn2,hb2⟩
 have hbw2:=hb1.trans (hb2.mono hb1.size)
 obtain rfl:n2=0:=(natAbs10 (x:=0) hs2.len).2 rfl
 go_wp2_with fail
 refine (refTextV s A1 n1 c1 _ x _ (hs1.below hb2) (by omega) (by rw [HSD.out];by_cases h:x < 0 <;> simp [h] <;> omega)).mono ?_
 rintro e w3 ⟨rfl,hb3⟩
 go_wp2
 go_ret2
 exact ⟨rfl,hbw2.trans (hb3.mono hbw2.size)⟩
set_option maxHeartbeats 2000000 in
theorem refDiv_easy (a b:List UInt8) (w:World) (ha:a.length≤2400000) (hb:b.length≤2400000) (x y:Int) (hxv:Dec.dval a=x) (hyv:Dec.dval b=y) (hy0:y≠0) (s s' z:Bool) (hsd:decide (x < 0)=s) (hsd':decide (y < 0)=s')
  (hz:(!(s == s'))=z) (hcase:z=false∨x.natAbs % y.natAbs=0) (q r:List UInt8) (HQ:Hid (numStr z (x.natAbs / y.natAbs)=q)) (HR:Hid (numStr s' (x.natAbs % y.natAbs)=r)) :
  Calls Tryz.prog 150 #[.string ⟨a.toArray⟩,.string ⟨b.toArray⟩] w (RetStr2 q r w):=by
 have HP1:Hid (∀ w':World,Calls Tryz.prog 105 #[.string ⟨a.toArray⟩] w' (RetDig (a.length+1) x w')):=fun w'=>by have:=refDigW a (by omega) w';rwa [hxv] at this
 have HP2:Hid (∀ w':World,Calls Tryz.prog 105 #[.string ⟨b.toArray⟩] w' (RetDig (b.length+1) y w')):=fun w'=>by have:=refDigW b (by omega) w';rwa [hyv] at this
 have HSD:=Lib.hid hsd
 have HSD':=Lib.hid hsd'
 have hyp:0 < y.natAbs:=by omega
 have HCase:=Lib.hid hcase
 clear hcase
 clear hsd hsd' hxv hyv
 go_enter Tryz.func150,Tryz.ntmps150
 go_wp2_with fail
 refine (HP1.out _).mono ?_
 rintro e w1 ⟨A1,n1,c1,rfl,hs1,hn1,hb1⟩
 rw [HSD.out]
 go_wp2_with fail
 refine (HP2.out _).mono ?_
 rintro e w2 ⟨A2,n2,c2,rfl,hs2,hn2,hb2⟩
 rw [HSD'.out]
 have hbw2:=hb1.trans (hb2.mono hb1.size)
 have hn20:((n2:Int) == 0)=false:=by rw [beq_eq_false_iff_ne];intro e;exact hy0 ((natAbs10 hs2.len).1 (by omega))
 clear hy0
 have hsA:=hs1.below hb2
 have hlq:=length10_div (b:=y.natAbs) hsA.len
 have hlr:=length10_mod (a:=x.natAbs) hyp hs2.len
 go_wp2_with fail
 refine (refOver_any A1 A2 n1 n2 c1 c2 _ _ w2 hsA hs2 (by omega) (by omega) hyp).mono ?_
 rintro e w3 ⟨A3,n3,c3,A4,n4,c4,rfl,hs3,hs4,hb3⟩
 have hbw3:=hbw2.trans (hb3.mono hbw2.size)
 have hn3:n3≤n1:=by rw [← hs3.len];exact hlq
 have hn4:n4≤n2:=by rw [← hs4.len];exact hlr
 have HN4:=Lib.hid hs4.len
 by_cases hzt:z=true
 ·have hn40:n4=0:=by
   rcases HCase.out with h | h
   ·rw [h] at hzt;cases hzt
   ·have:=HN4.out;rw [h] at this;simpa [Dec.limbs_zero] using this.symm
  subst hn40
  subst hzt
  go_wp2_with fail
  refine (refTextN true A3 n3 c3 _ q _ hs3 (by omega) HQ.out).mono ?_
  rintro e w4 ⟨rfl,hb4⟩
  have hbw4:=hbw3.trans (hb4.mono hbw3.size)
  go_wp2_with fail
  refine (refTextN s' A4 0 c4 _ r _ (hs4.below hb4) (by omega) HR.out).mono ?_
  rintro e w5 ⟨rfl,hb5⟩
  go_wp2
  go_ret2
  exact ⟨rfl,hbw4.trans (hb5.mono hbw4.size)⟩
 ·have hzf:z=false:=by cases z <;> simp_all
  subst hzf
  go_wp2_with fail
  refine (refTextN false A3 n3 c3 _ q _ hs3 (by omega) HQ.out).mono ?_
  rintro e w4 ⟨rfl,hb4⟩
  have hbw4:=hbw3.trans (hb4.mono hbw3.size)
  go_wp2_with fail
  refine (refTextN s' A4 n4 c4 _ r _ (hs4.below hb4) (by omega) HR.out).mono ?_
  rintro e w5 ⟨rfl,hb5⟩
  go_wp2
  go_ret2
  exact ⟨rfl,hbw4.trans (hb5.mono hbw4.size)⟩
set_option maxHeartbeats 2000000 in
theorem refDiv_hard (a b:List UInt8) (w:World) (ha:a.length≤2400000) (hb:b.length≤2400000) (x y:Int) (hxv:Dec.dval a=x) (hyv:Dec.dval b=y) (hy0:y≠0) (s s':Bool) (hsd:decide (x < 0)=s) (hsd':decide (y < 0)=s')
  (hz:(!(s == s'))=true) (hcase:x.natAbs % y.natAbs≠0) (q r:List UInt8) (HQ:Hid (numStr true (x.natAbs / y.natAbs+1)=q)) (HR:Hid (numStr s' (y.natAbs - x.natAbs % y.natAbs)=r)) :
  Calls Tryz.prog 150 #[.string ⟨a.toArray⟩,.string ⟨b.toArray⟩] w (RetStr2 q r w):=by
 have HP1:Hid (∀ w':World,Calls Tryz.prog 105 #[.string ⟨a.toArray⟩] w' (RetDig (a.length+1) x w')):=fun w'=>by have:=refDigW a (by omega) w';rwa [hxv] at this
 have HP2:Hid (∀ w':World,Calls Tryz.prog 105 #[.string ⟨b.toArray⟩] w' (RetDig (b.length+1) y w')):=fun w'=>by have:=refDigW b (by omega) w';rwa [hyv] at this
 have HSD:=Lib.hid hsd
 have HSD':=Lib.hid hsd'
 have hyp:0 < y.natAbs:=by omega
 have HCase:=Lib.hid hcase
 clear hcase
 clear hsd hsd' hxv hyv
 go_enter Tryz.func150,Tryz.ntmps150
 go_wp2_with fail
 refine (HP1.out _).mono ?_
 rintro e w1 ⟨A1,n1,c1,rfl,hs1,hn1,hb1⟩
 rw [HSD.out]
 go_wp2_with fail
 refine (HP2.out _).mono ?_
 rintro e w2 ⟨A2,n2,c2,rfl,hs2,hn2,hb2⟩
 rw [HSD'.out]
 have hbw2:=hb1.trans (hb2.mono hb1.size)
 have hn20:((n2:Int) == 0)=false:=by rw [beq_eq_false_iff_ne];intro e;exact hy0 ((natAbs10 hs2.len).1 (by omega))
 clear hy0
 have hsA:=hs1.below hb2
 have hlq:=length10_div (b:=y.natAbs) hsA.len
 have hlr:=length10_mod (a:=x.natAbs) hyp hs2.len
 go_wp2_with fail
 refine (refOver_any A1 A2 n1 n2 c1 c2 _ _ w2 hsA hs2 (by omega) (by omega) hyp).mono ?_
 rintro e w3 ⟨A3,n3,c3,A4,n4,c4,rfl,hs3,hs4,hb3⟩
 have hbw3:=hbw2.trans (hb3.mono hbw2.size)
 have hn3:n3≤n1:=by rw [← hs3.len];exact hlq
 have hn4:n4≤n2:=by rw [← hs4.len];exact hlr
 have HN4:=Lib.hid hs4.len
 have hn4p:0 < n4:=by
  rcases Nat.eq_zero_or_pos n4 with e | e
  ·have:=(Dec.limbs_eq_nil (B:=10) (by omega)).1 (List.eq_nil_of_length_eq_zero (HN4.out.trans e))
   exact absurd this HCase.out
  ·exact e
 have hml:=Nat.mod_lt x.natAbs hyp
 have hone:=Sl.one w3 .i64 3 1
 have hbW:Below w3.heap.size w3 (w3.alloc (.cells #[.int .i64 ((1:Nat):Int)] 3)):=(Below.refl _ _).alloc (Nat.le_refl _) _
 have hP:=refPlus_any A3 (some ⟨w3.heap.size,0,none⟩) n3 1 c3 1 _ [1] (w3.alloc (.cells #[.int .i64 ((1:Nat):Int)] 3)) (hs3.below hbW) hone (by omega) (by omega) (Dec.limbs_small (by omega) _) (Dec.Small.cons (by omega) Dec.Small.nil)
 rw [Dec.lval_limbs (by omega),show Dec.lval 10 [1]=1 from rfl] at hP
 have HP:=Lib.hid hP
 clear hP hone
 go_wp2_with fail
 refine HP.out.mono ?_
 rintro e w4 ⟨A5,n5,c5,o5,rfl,hn5,hs5,hso5,hv5,hb5,_⟩
 have HV5:=Lib.hid hv5
 clear hv5
 have hb45:=hbW.trans (hb5.mono hbW.size)
 have hbw4:=hbw3.trans (hb45.mono hbw3.size)
 have hM:=refMinus_any A2 A4 n2 n4 c2 c4 _ _ w4 ((hs2.below hb3).below hb45) (hs4.below hb45) (by omega) hn4 (Dec.limbs_small (by omega) _) (Dec.limbs_small (by omega) _) (by rw [Dec.lval_limbs (by omega),Dec.lval_limbs (by omega)];omega)
 rw [Dec.lval_limbs (by omega),Dec.lval_limbs (by omega)] at hM
 have HM:=Lib.hid hM
 clear hM
 have hll:(Dec.limbs 10 (y.natAbs - x.natAbs % y.natAbs)).length≤n2:=by rw [← hs2.len];exact Dec.limbs_length_mono (by omega) (by omega)
 go_wp2_with fail
 refine HM.out.mono ?_
 rintro e w6 ⟨A6,n6,c6,rfl,hs6,hb6,_⟩
 have hn6:n6≤n2:=by rw [← hs6.len];exact hll
 have hbw6:=hbw4.trans (hb6.mono hbw4.size)
 have hX:=refText_any true A5 n5 c5 o5 w6 (hs5.below hb6) (by omega) hso5
 rw [HV5.out,HQ.out] at hX
 have HX:=Lib.hid hX
 clear hX
 go_wp2_with fail
 refine HX.out.mono ?_
 rintro e w7 ⟨rfl,hb7⟩
 have hbw7:=hbw6.trans (hb7.mono hbw6.size)
 go_wp2_with fail
 refine (refTextN s' A6 n6 c6 _ r _ (hs6.below hb7) (by omega) HR.out).mono ?_
 rintro e w8 ⟨rfl,hb8⟩
 go_wp2
 go_ret2
 exact ⟨rfl,hbw7.trans (hb8.mono hbw7.size)⟩
theorem refDiv_any (a b:List UInt8) (w:World) (ha:a.length≤2400000) (hb:b.length≤2400000) :
  Calls Tryz.prog 150 #[.string ⟨a.toArray⟩,.string ⟨b.toArray⟩] w (RetStr2 (Lib.itoa (qd (Dec.dval a) (Dec.dval b))) (Lib.itoa (rm (Dec.dval a) (Dec.dval b))) w):=by
 by_cases hy:Dec.dval b=0
 ·have:=refDiv_zero a b w ha hb hy
  rw [hy,qd_zero,rm_zero,Dec.itoa_zero]
  exact this
 ·generalize hx:Dec.dval a=x
  generalize hyv:Dec.dval b=y at hy
  cases hs:decide (y < 0) with
  | _ =>
   by_cases hd:decide (x < 0)=decide (y < 0)
   ·obtain ⟨h1,h2⟩:=qd_same hy (hd.trans hs) hs
    exact refDiv_easy a b w ha hb x y hx hyv hy _ _ false (hd.trans hs) hs (by simp) (.inl rfl) _ _ (Lib.hid (numStr_eq (by simpa using h1))) (Lib.hid (numStr_eq h2))
   ·have hd':decide (x < 0)=!(decide (y < 0)):=by cases h1:decide (x < 0) <;> cases h2:decide (y < 0) <;> simp_all
    rw [hs] at hd'
    by_cases h0:x.natAbs % y.natAbs=0
    ·obtain ⟨h1,h2⟩:=qd_diff0 hy hd' hs h0
     exact refDiv_easy a b w ha hb x y hx hyv hy _ _ true hd' hs (by simp) (.inr h0) _ _ (Lib.hid (numStr_eq (by simpa using h1))) (Lib.hid (by rw [h0,numStr_zero,h2,Dec.itoa_zero]))
    ·obtain ⟨h1,h2⟩:=qd_diff hy hd' hs h0
     exact refDiv_hard a b w ha hb x y hx hyv hy _ _ hd' hs (by simp) h0 _ _ (Lib.hid (numStr_eq (by simpa using h1))) (Lib.hid (numStr_eq h2))
set_option maxHeartbeats 1000000 in
theorem refGcd_any (a b:List UInt8) (w:World) (ha:a.length≤2400000) (hb:b.length≤2400000) :
  Calls Tryz.prog 106 #[.string ⟨a.toArray⟩,.string ⟨b.toArray⟩] w (RetStr (Lib.itoa (Nat.gcd (Dec.dval a).natAbs (Dec.dval b).natAbs:Nat)) w):=by
 have HP1:Hid (∀ w':World,Calls Tryz.prog 105 #[.string ⟨a.toArray⟩] w' (RetDig (a.length+1) (Dec.dval a) w')):=fun w'=>refDigW a (by omega) w'
 have HP2:Hid (∀ w':World,Calls Tryz.prog 105 #[.string ⟨b.toArray⟩] w' (RetDig (b.length+1) (Dec.dval b) w')):=fun w'=>refDigW b (by omega) w'
 generalize Dec.dval a=x at *
 generalize Dec.dval b=y at *
 generalize hG:Nat.gcd x.natAbs y.natAbs=G
 have HG:=Lib.hid hG
 clear hG
 obtain ⟨s,hsd⟩:∃ s,s=decide (x < 0):=⟨_,rfl⟩
 have HSD:=Lib.hid hsd
 clear hsd
 obtain ⟨s',hsd'⟩:∃ s',s'=decide (y < 0):=⟨_,rfl⟩
 have HSD':=Lib.hid hsd'
 clear hsd'
 go_enter Tryz.func106,Tryz.ntmps106
 go_wp2_with fail
 refine (HP1.out _).mono ?_
 rintro e w1 ⟨A1,n1,c1,rfl,hs1,hn1,hb1⟩
 rw [← HSD.out]
 go_wp2_with fail
 refine (HP2.out _).mono ?_
 rintro e w2 ⟨A2,n2,c2,rfl,hs2,hn2,hb2⟩
 rw [← HSD'.out]
 have hbw2:=hb1.trans (hb2.mono hb1.size)
 go_wp2_with fail
 go_loopg [6,8] y.natAbs (fun kx s5 s6 wr=>∃ (A B:Option Addr) (n c m d u v:Nat),s5=.slice A n c∧s6=.slice B m d∧Sl wr .i64 A n c (Dec.limbs 10 u)∧Sl wr .i64 B m d (Dec.limbs 10 v)∧n≤2400001∧m≤2400001∧v≤kx∧Hid (Nat.gcd u v=G)∧Below w.heap.size w wr)
 case atStart=>exact ⟨A1,A2,n1,c1,n2,c2,_,_,rfl,rfl,hs1.below hb2,hs2,by omega,by omega,Nat.le_refl _,HG,hbw2⟩
 case round =>
  obtain ⟨A,B,n,c,m,d,u,v,rfl,rfl,hu,hv,hn,hm,hk,HGu,hb⟩:=hrel
  by_cases hm0:0 < m
  ·have hv0:0 < v:=limbs10_pos hv.len (by omega)
   have hlr:=length10_mod (a:=u) hv0 hv.len
   have hml:=Nat.mod_lt u hv0
   have HGn:Hid (Nat.gcd v (u % v)=G):=by show _=_;rw [← HGu.out,Nat.gcd_comm v,← Nat.gcd_rec,Nat.gcd_comm]
   have HDv:=Lib.hid (refOver_any A B n m c d u v wr hu hv (by omega) (by omega) hv0)
   go_wp2_with (go_at_call 107;refine HDv.out.mono ?_;rintro e w3 ⟨A3,n3,c3,A4,n4,c4,rfl,hs3,hs4,hb3⟩;have hn4:n4≤m:=(by rw [← hs4.len];exact hlr))
   go_roundg (u % v)
   case measure=>omega
   case rel=>exact ⟨B,A4,m,d,n4,c4,v,u % v,rfl,rfl,hv.below hb3,hs4,hm,by omega,Nat.le_refl _,HGn,hb.trans (hb3.mono hb.size)⟩
  ·have hv0:v=0:=(Dec.limbs_eq_nil (B:=10) (by omega)).1 (List.eq_nil_of_length_eq_zero (by rw [hv.len];omega))
   subst hv0
   have HE:Hid (numStr false u=Lib.itoa (G:Int)):=by show _=_;rw [← HGu.out,Nat.gcd_zero_right];rfl
   go_wp2_with fail
   refine (refTextN false A n c u _ _ hu (by omega) HE.out).mono ?_
   rintro e w3 ⟨rfl,hb3⟩
   go_wp2
   go_ret
   exact ⟨rfl,hb.trans (hb3.mono hb.size)⟩
theorem rd_num {x y:Int} {z:Bool} (hy:y≠0) (hz:(!(decide (x < 0) == decide (y < 0)))=z):(if z then -((x.natAbs / Nat.gcd x.natAbs y.natAbs:Nat):Int) else ((x.natAbs / Nat.gcd x.natAbs y.natAbs:Nat):Int))=rdN x y:=by
 have hg:0 < Nat.gcd x.natAbs y.natAbs:=Nat.gcd_pos_of_pos_right _ (by omega)
 have hd:=Nat.gcd_dvd_left x.natAbs y.natAbs
 unfold rdN
 rw [if_neg hy]
 generalize Nat.gcd x.natAbs y.natAbs=g at *
 obtain ⟨k,hk⟩:=hd
 rw [hk,Nat.mul_div_cancel_left _ hg]
 have hgk:((g * k:Nat):Int)=(g:Int) * k:=Int.natCast_mul _ _
 by_cases h1:x < 0 <;> by_cases h2:y < 0
 ·have e:rdX x y=k * g+0:=by unfold rdX;rw [if_pos h2,Int.mul_comm,← hgk];omega
  rw [(qd_of_pos (by omega) e (by omega) (by omega)).1]
  subst hz;simp [h1,h2]
 ·have e:rdX x y=(-(k:Int)) * g+0:=by unfold rdX;rw [if_neg h2,Int.neg_mul,Int.mul_comm,← hgk];omega
  rw [(qd_of_pos (by omega) e (by omega) (by omega)).1]
  subst hz;simp [h1,h2]
 ·have e:rdX x y=(-(k:Int)) * g+0:=by unfold rdX;rw [if_pos h2,Int.neg_mul,Int.mul_comm,← hgk];omega
  rw [(qd_of_pos (by omega) e (by omega) (by omega)).1]
  subst hz;simp [h1,h2]
 ·have e:rdX x y=k * g+0:=by unfold rdX;rw [if_neg h2,Int.mul_comm,← hgk];omega
  rw [(qd_of_pos (by omega) e (by omega) (by omega)).1]
  subst hz;simp [h1,h2]
theorem rd_den {x y:Int} (hy:y≠0):(if false=true then -((y.natAbs / Nat.gcd x.natAbs y.natAbs:Nat):Int) else ((y.natAbs / Nat.gcd x.natAbs y.natAbs:Nat):Int))=rdD x y:=by
 have hg:0 < Nat.gcd x.natAbs y.natAbs:=Nat.gcd_pos_of_pos_right _ (by omega)
 have hd:=Nat.gcd_dvd_right x.natAbs y.natAbs
 unfold rdD
 rw [if_neg hy]
 generalize Nat.gcd x.natAbs y.natAbs=g at *
 obtain ⟨k,hk⟩:=hd
 rw [hk,Nat.mul_div_cancel_left _ hg]
 have hgk:((g * k:Nat):Int)=(g:Int) * k:=Int.natCast_mul _ _
 have e:rdY y=k * g+0:=by unfold rdY;split <;> rw [Int.mul_comm,← hgk] <;> omega
 rw [(qd_of_pos (by omega) e (by omega) (by omega)).1]
 simp
set_option maxHeartbeats 2000000 in
theorem refReduce_any (a b:List UInt8) (w:World) (ha:a.length≤1100000) (hb:b.length≤1100000) :
  Calls Tryz.prog 72 #[.string ⟨a.toArray⟩,.string ⟨b.toArray⟩] w (RetStr2 (Lib.itoa (rdN (Dec.dval a) (Dec.dval b))) (Lib.itoa (rdD (Dec.dval a) (Dec.dval b))) w):=by
 have HP1:Hid (∀ w':World,Calls Tryz.prog 105 #[.string ⟨a.toArray⟩] w' (RetDig (a.length+1) (Dec.dval a) w')):=fun w'=>refDigW a (by omega) w'
 have HP2:Hid (∀ w':World,Calls Tryz.prog 105 #[.string ⟨b.toArray⟩] w' (RetDig (b.length+1) (Dec.dval b) w')):=fun w'=>refDigW b (by omega) w'
 have HG:Hid (∀ w':World,Calls Tryz.prog 106 #[.string ⟨a.toArray⟩,.string ⟨b.toArray⟩] w' (RetStr (Lib.itoa (Nat.gcd (Dec.dval a).natAbs (Dec.dval b).natAbs:Nat)) w')):=fun w'=>refGcd_any a b w' (by omega) (by omega)
 have hgl:(Lib.itoa (Nat.gcd (Dec.dval a).natAbs (Dec.dval b).natAbs:Nat)).length≤1100002:=by
  obtain ⟨K,hK⟩:∃ K,K=1100001:=⟨_,rfl⟩
  have:=gcd_len (K:=K) (x:=Dec.dval a) (y:=Dec.dval b) (by omega) (dval_lt18 (by omega)) (dval_lt18 (by omega))
  omega
 generalize Dec.dval a=x at *
 generalize Dec.dval b=y at *
 by_cases hy:y=0
 ·subst hy
  rw [show rdN x 0=0 from rfl,show rdD x 0=1 from rfl,Dec.itoa_zero,itoa_one]
  go_enter Tryz.func72,Tryz.ntmps72
  go_wp2_with fail
  refine (HP2.out _).mono ?_
  rintro e w2 ⟨A2,n2,c2,rfl,hs2,hn2,hb2⟩
  obtain rfl:n2=0:=(natAbs10 (x:=0) hs2.len).2 rfl
  go_wp2
  go_ret2
  exact ⟨rfl,hb2⟩
 ·obtain ⟨z,hz⟩:∃ z,z=(!(decide (x < 0) == decide (y < 0))):=⟨_,rfl⟩
  have HN:=Lib.hid (rd_num (x:=x) hy hz.symm)
  have HD:=Lib.hid (rd_den (x:=x) hy)
  have hg0:0 < Nat.gcd x.natAbs y.natAbs:=Nat.gcd_pos_of_pos_right _ (by omega)
  generalize Nat.gcd x.natAbs y.natAbs=g at *
  have HPg:Hid (∀ w':World,Calls Tryz.prog 105 #[.string ⟨(Lib.itoa (g:Int)).toArray⟩] w' (RetDig 1100100 (g:Int) w')):=fun w'=>by
   have:=refDigW (Lib.itoa (g:Int)) (by omega) w'
   rw [Dec.dval_itoa] at this
   exact this.mono (by
    rintro e w'' ⟨A,n,c,h1,h2,h3,h4⟩
    exact ⟨A,n,c,h1,h2,by omega,h4⟩)
  obtain ⟨s,hsd⟩:∃ s,s=decide (x < 0):=⟨_,rfl⟩
  obtain ⟨s',hsd'⟩:∃ s',s'=decide (y < 0):=⟨_,rfl⟩
  rw [← hsd,← hsd'] at hz
  have hz':(!(s == s'))=z:=hz.symm
  have HSD:=Lib.hid hsd
  have HSD':=Lib.hid hsd'
  clear hsd hsd' hz hgl
  go_enter Tryz.func72,Tryz.ntmps72
  go_wp2_with fail
  refine (HP2.out _).mono ?_
  rintro e w2 ⟨A2,n2,c2,rfl,hs2,hn2,hb2⟩
  rw [← HSD'.out]
  have hn20:((n2:Int) == 0)=false:=by rw [beq_eq_false_iff_ne];intro e;exact hy ((natAbs10 hs2.len).1 (by omega))
  clear hy
  go_wp2_with fail
  refine (HP1.out _).mono ?_
  rintro e w1 ⟨A1,n1,c1,rfl,hs1,hn1,hb1⟩
  rw [← HSD.out]
  have b1:=hb2.trans (hb1.mono hb2.size)
  have hsB1:=hs2.below hb1
  go_wp2_with fail
  refine (HG.out _).mono ?_
  rintro e w3 ⟨rfl,hb3⟩
  have b3:=b1.trans (hb3.mono b1.size)
  have hsA3:=hs1.below hb3
  have hsB3:=hsB1.below hb3
  go_wp2_with fail
  refine (HPg.out _).mono ?_
  rintro e w4 ⟨A4,n4,c4,rfl,hs4,hn4,hb4⟩
  have b4:=b3.trans (hb4.mono b3.size)
  have hsA4:=hsA3.below hb4
  have hsB4:=hsB3.below hb4
  rw [show decide ((g:Int) < 0)=false from decide_eq_false (by omega)]
  rw [Int.natAbs_natCast] at hs4
  have hlq:=length10_div (b:=g) hsA4.len
  have hld:=length10_div (b:=g) hsB4.len
  go_wp2_with fail
  refine (refOver_any A1 A4 n1 n4 c1 c4 _ _ w4 hsA4 hs4 (by omega) (by omega) hg0).mono ?_
  rintro e w5 ⟨A5,n5,c5,A6,n6,c6,rfl,hs5,hs6,hb5⟩
  have b5:=b4.trans (hb5.mono b4.size)
  have hn5:n5≤n1:=by rw [← hs5.len];exact hlq
  go_wp2_with fail
  refine (refOver_any A2 A4 n2 n4 c2 c4 _ _ w5 (hsB4.below hb5) (hs4.below hb5) (by omega) (by omega) hg0).mono ?_
  rintro e w7 ⟨A7,n7,c7,A8,n8,c8,rfl,hs7,hs8,hb7⟩
  have b7:=b5.trans (hb7.mono b5.size)
  have hn7:n7≤n2:=by rw [← hs7.len];exact hld
  go_wp2_with fail
  refine (refTextV z A5 n5 c5 _ _ _ (hs5.below hb7) (by omega) HN.out).mono ?_
  rintro e w9 ⟨rfl,hb9⟩
  have b9:=b7.trans (hb9.mono b7.size)
  go_wp2_with fail
  refine (refTextV false A7 n7 c7 _ _ _ (hs7.below hb9) (by omega) HD.out).mono ?_
  rintro e w10 ⟨rfl,hb10⟩
  go_wp2
  go_ret2
  exact ⟨rfl,b9.trans (hb10.mono b9.size)⟩
end Go.Proofs.YthhknjlmjefklaaGreatDoor
namespace Go.Proofs.YthhknjlmjefklaaGreatDoor
open Go.RowKit
theorem digits_len (l:List UInt8):(Dec.mag (norm l)).length=max 1 (Dec.limbs 10 (Dec.dval l).natAbs).length:=by
 have hm:=mag_norm l
 have hd:=norm_dec l
 have hv:=dval_norm l
 generalize norm l=s at hm hd hv
 by_cases h48:s=[48]
 ·subst h48
  rw [← hv]
  decide +kernel
 ·obtain ⟨h1,h2,h3,_⟩:=hm
  obtain ⟨_,hh⟩:=(Dec.isDec_iff h48).1 hd
  have h4:=Dec.revDigs_limbs h1 hh
  rw [h3] at h4
  rw [← h4]
  have:(Dec.revDigs (Dec.mag s)).length=(Dec.mag s).length:=by simp [Dec.revDigs]
  rw [this]
  have:0 < (Dec.mag s).length:=List.length_pos_iff.2 h2
  omega
set_option maxHeartbeats 1000000 in
theorem refDigitsN_any (l:List UInt8) (w:World) (hl:l.length≤2500000) :
  Calls Tryz.prog 186 #[.string ⟨l.toArray⟩] w (RetI64 ((Dec.mag (norm l)).length:Nat) w):=by
 have HD:=Lib.hid (refDigW l hl w)
 have HL:=Lib.hid (digits_len l)
 generalize (Dec.mag (norm l)).length=K at *
 generalize Dec.dval l=x at *
 obtain ⟨s,hsd⟩:∃ s,s=decide (x < 0):=⟨_,rfl⟩
 have HSD:=Lib.hid hsd
 clear hsd
 go_enter Tryz.func186,Tryz.ntmps186
 go_wp2_with fail
 refine HD.out.mono ?_
 rintro e w1 ⟨A1,n1,c1,rfl,hs1,hn1,hb1⟩
 rw [← HSD.out]
 have HN:=Lib.hid hs1.len
 go_wp2
 go_ret
 refine ⟨?_,hb1⟩
 rw [HL.out,HN.out,show ((max 1 n1:Nat):Int)=max 1 (n1:Int) by omega]
 rfl
set_option maxHeartbeats 1000000 in
theorem refSmall_no (l:List UInt8) (w:World) (hl:l.length≤2500000) (h9:9 < (Dec.mag (norm l)).length) :
  Calls Tryz.prog 91 #[.string ⟨l.toArray⟩] w (RetSmall 0 false w):=by
 have HD:=Lib.hid (refDigW l hl w)
 rw [digits_len l] at h9
 generalize Dec.dval l=x at *
 obtain ⟨s,hsd⟩:∃ s,s=decide (x < 0):=⟨_,rfl⟩
 have HSD:=Lib.hid hsd
 clear hsd
 go_enter Tryz.func91,Tryz.ntmps91
 go_wp2_with fail
 refine HD.out.mono ?_
 rintro e w1 ⟨A1,n1,c1,rfl,hs1,hn1,hb1⟩
 rw [← HSD.out]
 have hn9:9 < n1:=by rw [hs1.len] at h9;omega
 clear h9
 go_wp2
 go_ret2
 exact ⟨rfl,hb1⟩
set_option maxHeartbeats 1000000 in
theorem refSmall_yes (l:List UInt8) (w:World) (hl:l.length≤2500000) (h9:(Dec.mag (norm l)).length≤9) :
  Calls Tryz.prog 91 #[.string ⟨l.toArray⟩] w (RetSmall (Dec.dval l) true w):=by
 have HD:=Lib.hid (refDigW l hl w)
 rw [digits_len l] at h9
 generalize Dec.dval l=x at *
 have hxb:x.natAbs < 10 ^ 9:=by
  have h1:=Dec.lval_lt (B:=10) (by omega) (Dec.limbs_small (by omega) x.natAbs)
  rw [Dec.lval_limbs (by omega)] at h1
  exact Nat.lt_of_lt_of_le h1 (Nat.pow_le_pow_right (by omega) (by omega))
 have hsm:=Dec.limbs_small (B:=10) (by omega) x.natAbs
 by_cases hs:x < 0
 ·go_enter Tryz.func91,Tryz.ntmps91
  go_wp2_with fail
  refine HD.out.mono ?_
  rintro e w1 ⟨A1,n1,c1,rfl,hs1,hn1,hb1⟩
  rw [decide_eq_true hs]
  have hn9:n1≤9:=by rw [hs1.len] at h9;omega
  have HL:=Lib.hid hs1.len
  clear h9
  go_wp2_with fail
  go_loop [6,7] (fun nv ix=>∃ j:Nat,j≤n1∧ix=.int .i64 ((j:Int) - 1)∧nv=.int .i64 (Dec.lval 10 ((Dec.limbs 10 x.natAbs).drop j):Nat)) (fun _ ix=>(intOf ix+1).toNat)
  case atStart=>exact ⟨n1,Nat.le_refl _,rfl,by rw [List.drop_of_length_le (by rw [HL.out];exact Nat.le_refl _)];rfl⟩
  case round =>
   obtain ⟨j,hj,rfl,rfl⟩:=hrel
   have hvb:Dec.lval 10 ((Dec.limbs 10 x.natAbs).drop j) < 10 ^ 9:=by
    have h1:=Dec.lval_lt (B:=10) (by omega) (hsm.drop j)
    exact Nat.lt_of_lt_of_le h1 (Nat.pow_le_pow_right (by omega) (by rw [List.length_drop,HL.out];omega))
   by_cases hj0:0 < j
   ·obtain ⟨bx,ox,rfl,hbx,hcx⟩:=hs1.cells (by omega)
    have hcu:=hcx (j - 1) (by omega)
    clear hcx
    have hu:=getD_lt hsm (by omega) (j - 1)
    have HV:Hid (Dec.lval 10 ((Dec.limbs 10 x.natAbs).drop (j - 1))=(Dec.limbs 10 x.natAbs).getD (j - 1) 0+10 * Dec.lval 10 ((Dec.limbs 10 x.natAbs).drop j)):=by
     have:=Dec.lval_drop 10 (Dec.limbs 10 x.natAbs) (j - 1) (by rw [HL.out];omega)
     rw [show j - 1+1=j by omega] at this
     exact this
    generalize (Dec.limbs 10 x.natAbs).getD (j - 1) 0=u at hcu hu HV
    generalize Dec.lval 10 ((Dec.limbs 10 x.natAbs).drop j)=V at hvb HV
    have hi1:(0:Int)≤(j:Int) - 1:=by omega
    have hi2:(j:Int) - 1 < n1:=by omega
    have hi3:((j:Int) - 1).toNat=j - 1:=by omega
    go_wp2
    go_round
    case rel=>exact ⟨j - 1,by omega,by go_num,by rw [HV.out];go_num⟩
    case measure=>simp only [intOf];omega
   ·obtain rfl:j=0:=by omega
    have HV:Hid (Dec.lval 10 ((Dec.limbs 10 x.natAbs).drop 0)=x.natAbs):=by rw [List.drop_zero];exact Dec.lval_limbs (by omega) _
    generalize Dec.lval 10 ((Dec.limbs 10 x.natAbs).drop 0)=V at hvb HV
    go_wp2
    go_ret2
    refine ⟨?_,hb1⟩
    have e:-(V:Int)=x:=by have:=HV.out;omega
    rw [← e]
    rfl
 ·go_enter Tryz.func91,Tryz.ntmps91
  go_wp2_with fail
  refine HD.out.mono ?_
  rintro e w1 ⟨A1,n1,c1,rfl,hs1,hn1,hb1⟩
  rw [decide_eq_false (by omega)]
  have hn9:n1≤9:=by rw [hs1.len] at h9;omega
  have HL:=Lib.hid hs1.len
  clear h9
  go_wp2_with fail
  go_loop [6,7] (fun nv ix=>∃ j:Nat,j≤n1∧ix=.int .i64 ((j:Int) - 1)∧nv=.int .i64 (Dec.lval 10 ((Dec.limbs 10 x.natAbs).drop j):Nat)) (fun _ ix=>(intOf ix+1).toNat)
  case atStart=>exact ⟨n1,Nat.le_refl _,rfl,by rw [List.drop_of_length_le (by rw [HL.out];exact Nat.le_refl _)];rfl⟩
  case round =>
   obtain ⟨j,hj,rfl,rfl⟩:=hrel
   have hvb:Dec.lval 10 ((Dec.limbs 10 x.natAbs).drop j) < 10 ^ 9:=by
    have h1:=Dec.lval_lt (B:=10) (by omega) (hsm.drop j)
    exact Nat.lt_of_lt_of_le h1 (Nat.pow_le_pow_right (by omega) (by rw [List.length_drop,HL.out];omega))
   by_cases hj0:0 < j
   ·obtain ⟨bx,ox,rfl,hbx,hcx⟩:=hs1.cells (by omega)
    have hcu:=hcx (j - 1) (by omega)
    clear hcx
    have hu:=getD_lt hsm (by omega) (j - 1)
    have HV:Hid (Dec.lval 10 ((Dec.limbs 10 x.natAbs).drop (j - 1))=(Dec.limbs 10 x.natAbs).getD (j - 1) 0+10 * Dec.lval 10 ((Dec.limbs 10 x.natAbs).drop j)):=by
     have:=Dec.lval_drop 10 (Dec.limbs 10 x.natAbs) (j - 1) (by rw [HL.out];omega)
     rw [show j - 1+1=j by omega] at this
     exact this
    generalize (Dec.limbs 10 x.natAbs).getD (j - 1) 0=u at hcu hu HV
    generalize Dec.lval 10 ((Dec.limbs 10 x.natAbs).drop j)=V at hvb HV
    have hi1:(0:Int)≤(j:Int) - 1:=by omega
    have hi2:(j:Int) - 1 < n1:=by omega
    have hi3:((j:Int) - 1).toNat=j - 1:=by omega
    go_wp2
    go_round
    case rel=>exact ⟨j - 1,by omega,by go_num,by rw [HV.out];go_num⟩
    case measure=>simp only [intOf];omega
   ·obtain rfl:j=0:=by omega
    have HV:Hid (Dec.lval 10 ((Dec.limbs 10 x.natAbs).drop 0)=x.natAbs):=by rw [List.drop_zero];exact Dec.lval_limbs (by omega) _
    generalize Dec.lval 10 ((Dec.limbs 10 x.natAbs).drop 0)=V at hvb HV
    go_wp2
    go_ret2
    refine ⟨?_,hb1⟩
    have e:(V:Int)=x:=by have:=HV.out;omega
    rw [← e]
    rfl
end Go.Proofs.YthhknjlmjefklaaGreatDoor
namespace Go.Proofs.YthhknjlmjefklaaGreatDoor
open Go.RowKit
end Go.Proofs.YthhknjlmjefklaaGreatDoor
namespace Go.Proofs.YthhknjlmjefklaaGreatDoor
open Go.RowKit
theorem divInt_one' (n:Int):Rat.divInt n 1=(n:Rat):=by
 have:=Rat.num_divInt_den (n:Rat)
 rwa [Rat.num_intCast,Rat.den_intCast] at this
set_option maxHeartbeats 400000 in
theorem rLisp_any (l:List UInt8) (w:World):Calls Tryz.prog 29 #[str l] w (RetBel (.agg #[str lispB,str l]) w):=by
 go_enter Tryz.func29,Tryz.ntmps29
 go_wp2
 exact bodyPost_ret (v:=.agg #[str lispB,str l]) (by simp [results,Tryz.results29,go_sem]) rfl ⟨rfl,box _ _⟩
set_option maxHeartbeats 400000 in
theorem refFromInt_any (n:Int) (w:World) (ht:Tab w) (h0:-9223372036854775808≤n) (h1:n≤9223372036854775807) :
  Calls Tryz.prog 36 #[.int .i64 n] w (RetStr (Lib.itoa n) w):=by
 have HI:=Lib.hid (itoa_any n w ht h0 h1)
 clear h0 h1
 go_enter Tryz.func36,Tryz.ntmps36
 go_wp2_with fail
 refine HI.out.mono ?_
 rintro e w1 ⟨rfl,hb⟩
 go_wp2
 go_ret
 exact ⟨rfl,hb⟩
set_option maxHeartbeats 400000 in
theorem rNil_any (w:World):Calls Tryz.prog 28 #[] w (RetLeaf nilO w):=by
 go_enter Tryz.func28,Tryz.ntmps28
 go_wp2_with fail
 refine (rLisp_any nilB _).mono ?_
 rintro e w1 ⟨rfl,hb⟩
 go_wp2_with fail
 refine (rSymbol_any _ lispB nilB).mono ?_
 rintro e w2 ⟨rfl,hb2⟩
 have HB:=Lib.hid ((BlkIs.via hb).below hb2)
 obtain ⟨u0,u1,u2,u3,u4,u5,u6,ul⟩:=HB.out.seven
 obtain ⟨uf0,uf1,uf2,uf3,uf4,uf5,uf6⟩:=HB.out.frozen7
 go_wp2
 exact ret_obj Tryz.results28 rfl HB.out.put7 rfl ⟨rfl,set7 (then_ (via hb) hb2) (Nat.le_refl _) _ _ _ _ _ _ _⟩
set_option maxHeartbeats 400000 in
theorem rT_any (w:World):Calls Tryz.prog 64 #[] w (RetLeaf tO w):=by
 go_enter Tryz.func64,Tryz.ntmps64
 go_wp2_with fail
 refine (rLisp_any [116] _).mono ?_
 rintro e w1 ⟨rfl,hb⟩
 go_wp2_with fail
 refine (rSymbol_any _ lispB [116]).mono ?_
 rintro e w2 ⟨rfl,hb2⟩
 have HB:=Lib.hid ((BlkIs.via hb).below hb2)
 obtain ⟨u0,u1,u2,u3,u4,u5,u6,ul⟩:=HB.out.seven
 obtain ⟨uf0,uf1,uf2,uf3,uf4,uf5,uf6⟩:=HB.out.frozen7
 go_wp2
 exact ret_obj Tryz.results64 rfl HB.out.put7 rfl ⟨rfl,set7 (then_ (via hb) hb2) (Nat.le_refl _) _ _ _ _ _ _ _⟩
set_option maxHeartbeats 400000 in
theorem rRational_any (a b:List UInt8) (w:World) (ha:a.length≤1100000) (hb:b.length≤1100000):Calls Tryz.prog 35 #[str a,str b] w (RetLeaf (numO (Lib.itoa (rdN (Dec.dval a) (Dec.dval b))) (Lib.itoa (rdD (Dec.dval a) (Dec.dval b)))) w):=by
 have HF:=Lib.hid (fun w' (_:Below w.heap.size w w')=>refReduce_any a b w' ha hb)
 clear ha hb
 generalize Lib.itoa (rdN (Dec.dval a) (Dec.dval b))=n at *
 generalize Lib.itoa (rdD (Dec.dval a) (Dec.dval b))=d at *
 go_enter Tryz.func35,Tryz.ntmps35
 go_wp2_with fail
 refine (HF.out _ (box _ _)).mono ?_
 rintro e w1 ⟨rfl,hb⟩
 have HB:=Lib.hid (BlkIs.via hb)
 obtain ⟨u0,u1,u2,u3,u4,u5,u6,hu⟩:=HB.out.seven
 obtain ⟨f0,f1,f2,f3,f4,f5,f6⟩:=HB.out.frozen7
 go_wp2
 exact ret_obj Tryz.results35 rfl HB.out.put7 rfl ⟨rfl,set7 (via hb) (Nat.le_refl _) _ _ _ _ _ _ _⟩
theorem rRationalQ (a b:List UInt8) (w:World) (ha:a.length≤1100000) (hb:b.length≤1100000):Calls Tryz.prog 35 #[str a,str b] w (RetLeaf (ratO (Rat.divInt (Dec.dval a) (Dec.dval b))) w):=by
 have:=rRational_any a b w ha hb
 rwa [(rd_rat _ _).1,(rd_rat _ _).2] at this
set_option maxHeartbeats 400000 in
theorem rCons_any (ok:Nat→Prop) (a d:Ob) (A A':Option Addr) (n n' c c':Nat) (w:World) (ha:Rd ok w (.slice A n c) (.row (a.pair.map Ob.enc))) (hd:Rd ok w (.slice A' n' c') (.row (d.pair.map Ob.enc))) :
  Calls Tryz.prog 69 #[objV a (.slice A n c),objV d (.slice A' n' c')] w (RetObj ok (consO a d) w):=by
 go_enter Tryz.func69,Tryz.ntmps69
 go_wp2
 exact ret_obj Tryz.results69 rfl ((BlkIs.new2 w _ _ _ _).alloc _) rfl (cons_ret ok a d A A' n n' c c' w ha hd)
set_option maxHeartbeats 400000 in
theorem rIsCons_any (o:Ob) (A:Option Addr) (n c:Nat) (w:World) (hn:n≤9223372036854775807) :
  Calls Tryz.prog 102 #[objV o (.slice A n c)] w (RetBel (.bool (decide (o.kind=4∧n=2))) w):=by
 by_cases hk:o.kind=4
 ·by_cases h2:n=2
  ·rw [decide_eq_true ⟨hk,h2⟩]
   obtain ⟨k,nm,d,p,s,t,l⟩:=o
   dsimp only at hk
   subst hk h2
   go_enter Tryz.func102,Tryz.ntmps102
   go_wp2
   go_ret
   exact ⟨rfl,box _ _⟩
  ·rw [decide_eq_false (fun h=>h2 h.2)]
   obtain ⟨k,nm,d,p,s,t,l⟩:=o
   dsimp only at hk
   subst hk
   have hn2:((n:Int) == 2)=false:=by rw [beq_eq_false_iff_ne];omega
   clear h2
   go_enter Tryz.func102,Tryz.ntmps102
   go_wp2
   go_ret
   exact ⟨rfl,box _ _⟩
 ·rw [decide_eq_false (fun h=>hk h.1)]
  obtain ⟨k,nm,d,p,s,t,l⟩:=o
  dsimp only at hk
  have hn2:(k == 4)=false:=by rw [beq_eq_false_iff_ne];exact hk
  clear hk
  go_enter Tryz.func102,Tryz.ntmps102
  go_wp2
  go_ret
  exact ⟨rfl,box _ _⟩
set_option maxHeartbeats 400000 in
theorem rInt_any (n:Int) (w:World) (ht:Tab w) (h0:-9223372036854775808≤n) (h1:n≤9223372036854775807):Calls Tryz.prog 12 #[.int .i64 n] w (RetLeaf (ratO (n:Rat)) w):=by
 have HF:=Lib.hid (fun w' (hb:Below w.heap.size w w')=>refFromInt_any n w' (ht.below hb) h0 h1)
 have hl:(Lib.itoa n).length≤20:=itoa_length_any n (k:=19) (by omega) (by omega)
 have HR:Hid (∀ w':World,Calls Tryz.prog 35 #[str (Lib.itoa n),str [49]] w' (RetLeaf (ratO (n:Rat)) w')):=fun w'=>by
  have:=rRationalQ (Lib.itoa n) [49] w' (by omega) (by decide)
  rwa [Dec.dval_itoa,show Dec.dval [49]=1 by decide +kernel,divInt_one'] at this
 unfold ratO at HR ⊢
 clear h0 h1 hl
 generalize Lib.itoa (n:Rat).num=l1 at *
 generalize Lib.itoa ((n:Rat).den:Int)=l2 at *
 generalize Lib.itoa n=ln at *
 go_enter Tryz.func12,Tryz.ntmps12
 go_wp2_with fail
 refine (HF.out _ (box _ _)).mono ?_
 rintro e w1 ⟨rfl,hb⟩
 go_wp2_with fail
 refine (HR.out _).mono ?_
 rintro e w2 ⟨rfl,hb2⟩
 have HB:=Lib.hid ((BlkIs.via hb).below hb2)
 obtain ⟨u0,u1,u2,u3,u4,u5,u6,ul⟩:=HB.out.seven
 obtain ⟨uf0,uf1,uf2,uf3,uf4,uf5,uf6⟩:=HB.out.frozen7
 go_wp2
 exact ret_obj Tryz.results12 rfl HB.out.put7 rfl ⟨rfl,set7 (then_ (via hb) hb2) (Nat.le_refl _) _ _ _ _ _ _ _⟩
set_option maxHeartbeats 2000000 in
set_option maxRecDepth 100000 in
theorem rList_any (ok:Nat→Prop) (l:List Ob) (A:Option Addr) (n c:Nat) (w:World) (h:Rd ok w (.slice A n c) (.row (l.map Ob.enc))) (hn:n≤1000000) :
  Calls Tryz.prog 71 #[.slice A n c] w (RetObj ok (listO l) w):=by
 have HL:=Lib.hid h.len
 go_enter Tryz.func71,Tryz.ntmps71
 go_wp2_with fail
 refine (rNil_any _).mono ?_
 rintro e w1 ⟨rfl,hb1⟩
 have R1:=Lib.hid (BlkIs.via hb1)
 have b1:Below w.heap.size w w1:=via hb1
 have hsz:=R1.out.lt
 clear hb1
 go_wp2
 go_loopw [4] (fun ix wr=>∃ (j:Nat) (o:Ob) (Ao:Option Addr) (no co:Nat),j≤n∧ix=.int .i64 ((j:Int) - 1)∧Hid (o=listO (l.drop j))∧Hid (BlkIs wr w.heap.size 37 zeroCells)∧Hid (BlkIs wr w1.heap.size 37 (obCells o (.slice Ao no co)))∧Rd (fun b=>(ok b∧b < w.heap.size)∨w1.heap.size < b) wr (.slice Ao no co) (.row (o.pair.map Ob.enc))∧Below w.heap.size w wr) (fun ix _=>(intOf ix+1).toNat)
 case atStart=>exact ⟨n,nilO,none,0,0,Nat.le_refl _,rfl,Lib.hid (by rw [List.drop_of_length_le (by have:=HL.out;rw [List.length_map] at this;omega)];rfl),Lib.hid (R1.out.alloc _),Lib.hid (BlkIs.new w1 _ _),.nil _ _,box2 b1 _⟩
 case round =>
  obtain ⟨j,o,Ao,no,co,hj,rfl,HO,R,X,hr,hb⟩:=hrel
  clear b1 R1
  have hgs:=X.out.lt
  obtain ⟨x0,x1,x2,x3,x4,x5,x6,xl⟩:=X.out.seven
  obtain ⟨xf0,xf1,xf2,xf3,xf4,xf5,xf6⟩:=X.out.frozen7
  rcases Nat.eq_zero_or_pos j with h0 | h0
  ·subst h0
   obtain ⟨r0,r1,r2,r3,r4,r5,r6,rl⟩:=R.out.seven
   obtain ⟨rf0,rf1,rf2,rf3,rf4,rf5,rf6⟩:=R.out.frozen7
   go_wp2
   have e:o=listO l:=by rw [HO.out];rfl
   refine ret_obj Tryz.results71 rfl R.out.put7 rfl ⟨Ao,no,co,by rw [← e],?_,set7 hb (Nat.le_refl _) _ _ _ _ _ _ _⟩
   rw [← e]
   refine Rd.mono (hr.far7 (g:=w.heap.size) (fun b hb'=>by omega) _ _ _ _ _ _ _) (fun b hb' _=>?_)
   rcases hb' with h1 | h1
   ·exact .inl h1.1
   ·exact .inr (by omega)
  ·obtain ⟨b,q,hil,A3,n3,c3,rfl,hbl,hok,a0,a1,a2,a3,a4,a5,a6,ha⟩:=h.objs hb (i:=j - 1) (by omega)
   have hbl':=Nat.lt_of_lt_of_le hbl hb.size
   have HS:=Lib.hid (drop_cons hil)
   have hi1:(0:Int)≤(j:Int) - 1:=by omega
   have hi2:(j:Int) - 1 < n:=by omega
   have hi3:((j:Int) - 1).toNat=j - 1:=by omega
   have ha':Rd (fun b=>(ok b∧b < w.heap.size)∨w1.heap.size < b) wr.drew (.slice A3 n3 c3) (.row ((l[j - 1]).pair.map Ob.enc)):=(((ha.mono fun b h1 h2=>⟨h1,h2⟩:Rd (fun b=>ok b∧b < w.heap.size) w _ _).under hb).mono fun b h1 _=>.inl h1).drew
   have HC:=Lib.hid (rCons_any (fun b=>(ok b∧b < w.heap.size)∨w1.heap.size < b) l[j - 1] o A3 Ao n3 no c3 co wr.drew ha' hr.drew)
   have hbd:=hb.drew
   go_upto_region 5 with (fail)
   go_still_tail 5,(by kernel_rfl)
   go_wp2_with fail
   refine HC.out.mono ?_
   rintro e v ⟨A5,n5,c5,rfl,hr5,hb5⟩
   have X5:=Lib.hid (X.out.drew.below hb5)
   have R5:=Lib.hid (R.out.drew.below hb5)
   have hv:=hb5.size
   have hb5':=then_ hbd hb5
   clear x0 xf0 x1 xf1 x2 xf2 x3 xf3 x4 xf4 x5 xf5 x6 xf6 a0 a1 a2 a3 a4 a5 a6
   obtain ⟨y0,y1,y2,y3,y4,y5,y6,yl⟩:=X5.out.seven
   obtain ⟨yf0,yf1,yf2,yf3,yf4,yf5,yf6⟩:=X5.out.frozen7
   go_wp2
   go_roundw
   case rel =>
    refine ⟨j - 1,consO l[j - 1] o,A5,n5,c5,by omega,by go_num,Lib.hid ?_,Lib.hid (R5.out.far7 (by omega) _ _ _ _ _ _ _),Lib.hid X5.out.put7,?_,set7 hb5' (by omega) _ _ _ _ _ _ _⟩
    ·have:=HS.out
     rw [Nat.sub_add_cancel h0,← HO.out] at this
     exact this.symm
    ·refine (hr5.mono (fun b h1 _=>?_)).far7 (fun b h1=>by omega) _ _ _ _ _ _ _
     rcases h1 with h1 | h1
     ·exact h1
     ·right
      have:wr.drew.heap.size=wr.heap.size:=rfl
      omega
   case measure=>simp only [intOf];omega
end Go.Proofs.YthhknjlmjefklaaGreatDoor
namespace Go.Proofs.YthhknjlmjefklaaGreatDoor
open Go.RowKit
theorem all_eq {l m:List Ob} {n:Nat} (hl:l.length=n) (hm:m.length=n) (h:∀ j (h1:j < l.length) (h2:j < m.length),j < n→l[j]=m[j]):l=m:=by
 apply List.ext_getElem (by omega)
 intro i h1 h2
 exact h i h1 h2 (by omega)
set_option maxHeartbeats 8000000 in
set_option maxRecDepth 100000 in
theorem rEqual_any (ok ok':Nat→Prop):∀ (N:Nat) (a b:Ob),a.size≤N→a.Wf→∀ (A A':Option Addr) (n n' c c':Nat) (w:World),Rd ok w (.slice A n c) (.row (a.pair.map Ob.enc))→Rd ok' w (.slice A' n' c') (.row (b.pair.map Ob.enc)) →
  Calls Tryz.prog 50 #[objV a (.slice A n c),objV b (.slice A' n' c')] w (RetEq (a=b) w):=by
 intro N
 induction N with
 | zero=>intro a b h;have:=Ob.size_pos a;omega
 | succ N ih =>
  intro a b hN hW A A' n n' c c' w hx hy
  obtain ⟨P,HP⟩:∃ P:Prop,Hid (P↔a=b):=⟨_,Lib.hid Iff.rfl⟩
  rw [show (a=b)=P from propext HP.out.symm]
  obtain ⟨xk,xn,xd,xp,xs,xt,xl⟩:=a
  obtain ⟨yk,yn,yd,yp,ys,yt,yl⟩:=b
  have hxl:=hx.len
  have hyl:=hy.len
  rw [List.length_map] at hxl hyl
  have hw1:=hW.len
  dsimp only at hxl hyl hw1
  by_cases hk:xk=yk
  case neg =>
   have hz:(xk != yk)=true:=by rw [bne_iff_ne];exact hk
   have HF:Hid (¬ P):=fun e=>hk (by have e1:=HP.out.1 e;injection e1)
   clear hk hxl hyl
   go_enter Tryz.func50,Tryz.ntmps50
   go_wp2
   go_ret
   exact ⟨false,rfl,iff_no HF.out,box2 (box _ _) _⟩
  subst hk
  by_cases hn:xn=yn
  case neg =>
   have hz:(xn == yn)=false:=by rw [beq_eq_false_iff_ne];exact hn
   have HF:Hid (¬ P):=fun e=>hn (by have e1:=HP.out.1 e;injection e1)
   clear hn hxl hyl
   go_enter Tryz.func50,Tryz.ntmps50
   go_wp2
   go_ret
   exact ⟨false,rfl,iff_no HF.out,box2 (box _ _) _⟩
  subst hn
  by_cases hd:xd=yd
  case neg =>
   have hz:(xd == yd)=false:=by rw [beq_eq_false_iff_ne];exact hd
   have HF:Hid (¬ P):=fun e=>hd (by have e1:=HP.out.1 e;injection e1)
   clear hd hxl hyl
   go_enter Tryz.func50,Tryz.ntmps50
   go_wp2
   go_ret
   exact ⟨false,rfl,iff_no HF.out,box2 (box _ _) _⟩
  subst hd
  by_cases hp:xp=yp
  case neg =>
   have hz:(xp == yp)=false:=by rw [beq_eq_false_iff_ne];exact hp
   have HF:Hid (¬ P):=fun e=>hp (by have e1:=HP.out.1 e;injection e1)
   clear hp hxl hyl
   go_enter Tryz.func50,Tryz.ntmps50
   go_wp2
   go_ret
   exact ⟨false,rfl,iff_no HF.out,box2 (box _ _) _⟩
  subst hp
  by_cases hs:xs=ys
  case neg =>
   have hz:(xs == ys)=false:=by rw [beq_eq_false_iff_ne];exact hs
   have HF:Hid (¬ P):=fun e=>hs (by have e1:=HP.out.1 e;injection e1)
   clear hs hxl hyl
   go_enter Tryz.func50,Tryz.ntmps50
   go_wp2
   go_ret
   exact ⟨false,rfl,iff_no HF.out,box2 (box _ _) _⟩
  subst hs
  by_cases ht:xt=yt
  case neg =>
   have hz:(xt == yt)=false:=by rw [beq_eq_false_iff_ne];exact ht
   have HF:Hid (¬ P):=fun e=>ht (by have e1:=HP.out.1 e;injection e1)
   clear ht hxl hyl
   go_enter Tryz.func50,Tryz.ntmps50
   go_wp2
   go_ret
   exact ⟨false,rfl,iff_no HF.out,box2 (box _ _) _⟩
  subst ht
  by_cases hl:n=n'
  case neg =>
   have hz:((n:Int) != (n':Int))=true:=by rw [bne_iff_ne];omega
   have HF:Hid (¬ P):=fun e=>hl (by have e1:=HP.out.1 e;injection e1 with _ _ _ _ _ _ e2;rw [← hxl,← hyl,e2])
   clear hl hxl hyl
   go_enter Tryz.func50,Tryz.ntmps50
   go_wp2
   go_ret
   exact ⟨false,rfl,iff_no HF.out,box2 (box _ _) _⟩
  subst hl
  have HXL:=Lib.hid hxl
  have HYL:=Lib.hid hyl
  rw [hxl] at hw1
  clear hxl hyl
  go_enter Tryz.func50,Tryz.ntmps50
  go_wp2
  go_loopw [5] (fun ix wq=>∃ i:Nat,i≤n∧ix=.int .i64 i∧Hid (∀ j (h1:j < xl.length) (h2:j < yl.length),j < i→xl[j]=yl[j])∧Hid (BlkIs wq w.heap.size 37 (obCells ⟨xk,xn,xd,xp,xs,xt,xl⟩ (.slice A n c)))∧Hid (BlkIs wq (w.heap.size+1) 37 (obCells ⟨xk,xn,xd,xp,xs,xt,yl⟩ (.slice A' n c')))∧Below w.heap.size w wq) (fun ix _=>n - (intOf ix).toNat)
  case atStart=>exact ⟨0,Nat.zero_le _,rfl,Lib.hid (fun j _ _ h=>absurd h (by omega)),Lib.hid ((BlkIs.new w _ _).alloc _),Lib.hid (BlkIs.new1 w _ _ _),box2 (box _ _) _⟩
  case round =>
   obtain ⟨i,hi,rfl,HJ,HX,HY,hb⟩:=hrel
   obtain ⟨u0,u1,u2,u3,u4,u5,u6,hu⟩:=HX.out.seven
   obtain ⟨v0,v1,v2,v3,v4,v5,v6,hv⟩:=HY.out.seven
   by_cases hin:i < n
   ·obtain ⟨p1,q1,hil,A4,n4,c4,rfl,hp1,_,a0,a1,a2,a3,a4,a5,a6,ha⟩:=hx.objs hb (i:=i) hin
    obtain ⟨p2,q2,hil',A5,n5,c5,rfl,hp2,_,b0,b1,b2,b3,b4,b5,b6,hb'⟩:=hy.objs hb (i:=i) hin
    have hp1':=Nat.lt_of_lt_of_le hp1 hb.size
    have hp2':=Nat.lt_of_lt_of_le hp2 hb.size
    have hsz:=Ob.size_pair (o:=⟨xk,xn,xd,xp,xs,xt,xl⟩) (x:=xl[i]) (List.getElem_mem hil)
    have hwf:=hW.kids (x:=xl[i]) (List.getElem_mem hil)
    have HC:Hid (∀ wd:World,Below w.heap.size w wd→Calls Tryz.prog 50 #[objV xl[i] (.slice A4 n4 c4),objV yl[i] (.slice A5 n5 c5)] wd (RetEq (xl[i]=yl[i]) wd)):=fun wd hd=>ih xl[i] yl[i] (by omega) hwf A4 A5 n4 n5 c4 c5 wd (ha.under hd) (hb'.under hd)
    have hi1:(0:Int)≤(i:Int):=by omega
    have hi2:(i:Int) < n:=by omega
    have hbd:=hb.drew
    go_upto_region 6 with (fail)
    go_still_tail 10,(by kernel_rfl)
    go_wp2_with fail
    refine (HC.out _ hbd).mono ?_
    rintro e w1 ⟨bb,rfl,hbb,hb1⟩
    have hbw1:=then_ hbd hb1
    cases bb with
    | false =>
     have HF:Hid (¬ P):=fun e=>by
      have e1:=HP.out.1 e
      injection e1 with _ _ _ _ _ _ e2
      have:=hbb.2 (by subst e2;rfl)
      cases this
     clear hbb
     go_wp2
     go_ret
     exact ⟨false,rfl,iff_no HF.out,hbw1⟩
    | true =>
     have HE:=Lib.hid (hbb.1 rfl)
     clear hbb
     go_wp2
     go_roundw
     case rel=>exact ⟨i+1,by omega,by go_num,Lib.hid (fun j h1 h2 h=>by
      rcases Nat.lt_or_ge j i with h3 | h3
      ·exact HJ.out j h1 h2 h3
      ·obtain rfl:j=i:=by omega
       exact HE.out),Lib.hid (HX.out.drew.below hb1),Lib.hid (HY.out.drew.below hb1),hbw1⟩
     case measure=>simp only [intOf];omega
   ·obtain rfl:i=n:=by omega
    have HT:Hid P:=HP.out.2 (by
     rw [all_eq HXL.out HYL.out HJ.out])
    go_wp2
    go_ret
    exact ⟨true,rfl,iff_yes HT.out,hb⟩
end Go.Proofs.YthhknjlmjefklaaGreatDoor
namespace Go.Proofs.YthhknjlmjefklaaGreatDoor
open Go.RowKit
set_option maxHeartbeats 1000000 in
set_option maxRecDepth 100000 in
theorem rIsNil_any (ok:Nat→Prop) (o:Ob) (hw:o.Wf) (A:Option Addr) (n c:Nat) (w:World) (h:Rd ok w (.slice A n c) (.row (o.pair.map Ob.enc))):Calls Tryz.prog 16 #[objV o (.slice A n c)] w (RetEq (o=nilO) w):=by
 have HE:Hid (∀ w':World,Below w.heap.size w w'→Calls Tryz.prog 50 #[objV o (.slice A n c),objV nilO (.slice none 0 0)] w' (RetEq (o=nilO) w')):=fun w' hb=>rEqual_any ok (fun _=>True) o.size o nilO (Nat.le_refl _) hw A none n 0 c 0 w' (h.under hb) (.nil _ _)
 generalize (o=nilO)=P at *
 go_enter Tryz.func16,Tryz.ntmps16
 go_upto_region 1 with (fail)
 have X0':=Lib.hid (BlkIs.new w 37 (obCells o (.slice A n c)))
 have b0:=(box w (.cells (obCells o (.slice A n c)) 37)).drew
 generalize w.alloc (.cells (obCells o (.slice A n c)) 37)=W at *
 have X0:=Lib.hid X0'.out.drew
 obtain ⟨xs0,xs1,xs2,xs3,xs4,xs5,xs6,xsl⟩:=X0'.out.seven
 go_region_held3 (fun w'=>w'.cell? ⟨w.heap.size,0,none⟩=some (.int .i64 o.kind)∧w'.cell? ⟨w.heap.size,1,none⟩=some (str o.num)∧w'.cell? ⟨w.heap.size,2,none⟩=some (str o.den)∧w'.cell? ⟨w.heap.size,3,none⟩=some (str o.sp)∧w'.cell? ⟨w.heap.size,4,none⟩=some (str o.sn)∧w'.cell? ⟨w.heap.size,5,none⟩=some (str o.text)∧w'.cell? ⟨w.heap.size,6,none⟩=some (.slice A n c)) (go_keep)
  (first | (go_at_call 28;((with_reducible refine (rNil_any _).mono ?_));rintro e v1 ⟨rfl,hb1⟩;have b1:=then_ b0 hb1;have X1:=Lib.hid (X0.out.below hb1);obtain ⟨xc1_0,xc1_1,xc1_2,xc1_3,xc1_4,xc1_5,xc1_6,xc1_l⟩:=X1.out.seven) | (go_at_call 50;((with_reducible refine (HE.out _ b1).mono ?_));rintro e v2 ⟨bb,rfl,hbb,hb2⟩;have b2:=then_ b1 hb2;have X2:=Lib.hid (X1.out.below hb2);obtain ⟨xc2_0,xc2_1,xc2_2,xc2_3,xc2_4,xc2_5,xc2_6,xc2_l⟩:=X2.out.seven))
 go_wp2
 go_ret
 exact ⟨bb,rfl,hbb,b2⟩
set_option maxHeartbeats 400000 in
theorem rFix_any (o:Ob) (q:Rat) (hv:Val o q) (A:Option Addr) (n c:Nat) (hn:o.pair.length=n) (w:World) (ht:Tab w):Calls Tryz.prog 146 #[objV o (.slice A n c)] w (RetNum q w):=by
 rcases hv with ⟨hk,rfl⟩ | ⟨hk,rfl⟩
 ·obtain rfl:n=0:=by rw [← hn];rfl
  clear hk hn
  generalize Lib.itoa q.num=ln at *
  generalize Lib.itoa (q.den:Int)=ld at *
  go_enter Tryz.func146,Tryz.ntmps146
  go_wp2
  exact ret_obj Tryz.results146 rfl (BlkIs.new1 w _ _ _) rfl ⟨A,c,rfl,box2 (box _ _) _⟩
 ·obtain ⟨k,nm,d,p,s,t,l⟩:=o
  dsimp only at hk
  have hz:(k == 1)=false:=by rw [beq_eq_false_iff_ne];exact hk
  clear hk hn
  have HI:Hid (∀ w':World,Below w.heap.size w w'→Calls Tryz.prog 12 #[.int .i64 0] w' (RetLeaf (numO (Lib.itoa (0:Rat).num) (Lib.itoa ((0:Rat).den:Int))) w')):=fun w' hb=>by
   exact rInt_any 0 w' (ht.below hb) (by omega) (by omega)
  unfold RetNum
  generalize Lib.itoa (0:Rat).num=ln at *
  generalize Lib.itoa ((0:Rat).den:Int)=ld at *
  go_enter Tryz.func146,Tryz.ntmps146
  go_wp2_with fail
  refine (HI.out _ (box2 (box _ _) _)).mono ?_
  rintro e w1 ⟨rfl,hb⟩
  have HB:=Lib.hid ((BlkIs.new1 w _ _ _).below hb)
  obtain ⟨u0,u1,u2,u3,u4,u5,u6,hu⟩:=HB.out.seven
  obtain ⟨f0,f1,f2,f3,f4,f5,f6⟩:=HB.out.frozen7
  go_wp2
  exact ret_obj Tryz.results146 rfl HB.out.put7 rfl ⟨none,0,rfl,set7 (via (via hb)) (Nat.le_succ _) _ _ _ _ _ _ _⟩
end Go.Proofs.YthhknjlmjefklaaGreatDoor
namespace Go.Proofs.YthhknjlmjefklaaGreatDoor
open Go.RowKit
def rkI (k:Int):Int:=if k=1 then 0 else if k=3 then 1 else if k=2 then 2 else 3
end Go.Proofs.YthhknjlmjefklaaGreatDoor
