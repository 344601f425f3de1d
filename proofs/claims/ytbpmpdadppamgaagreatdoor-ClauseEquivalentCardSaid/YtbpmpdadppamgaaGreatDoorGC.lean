/- (number.integer).String: the numeral of an integer. -/
import Derived.Test.YtbpmpdadppamgaaGreatDoorGB
import Derived.Test.YtbpmpdadppamgaaGreatDoorGA
import Derived.Deep.RegionHeld3
import Derived.Maps.AppendAt
import Derived.Deep.RegionLaw
import Derived.Deep.DeepCutAuto
set_option maxRecDepth 100000
set_option maxHeartbeats 4000000
namespace Go.Proofs.YtbpmpdadppamgaaGreatDoor
open Tryz
open Go.RowKit
theorem OZ(n:Int)(w:World)(ht:R9 w)(h0:-9223372036854775808≤n)(h1:n≤9223372036854775807) :
  Calls prog 253 #[.int .i64 n,.int .i64 10] w fun e w'=>e=.returned (.string ⟨(Lib.itoa n).toArray⟩)∧Below w.heap.size w w':=by
 refine (Tryz.strconv_FormatInt_10 n h0 h1 w ht).mono ?_;rintro e w' ⟨rfl,k,os,rfl⟩;exact⟨rfl,Lib.below_grow _ _ (PP _) _ _⟩
theorem Qt(k:Nat)(hk:k≤9):((⟨#[48,48,48,48,48,48,48,48,48]⟩:ByteArray).extract k 9).data.toList=List.replicate (9 - k) 48:=by
 rw[Lib.extract_data];have:∀j:Fin 10,((([48,48,48,48,48,48,48,48,48]:lw).drop j.val).take (9 - j.val))=List.replicate (9 - j.val) 48:=O;exact this ⟨k,J⟩
theorem Pj{B:Nat}(hB:2≤B):∀(l:List Nat) (h:l≠[]),l.getLast h≠0→j6.y8 B l≠0
 |[],h,_=>absurd rfl h
 |[x],_,hl=>by simpa[j6.y8] using hl
 |x::y::r,_,hl=>by
  have:=Pj hB (y::r) I (by simpa using hl);simp only[j6.y8]at this ⊢
  have h2:0 < B * (y+B * j6.y8 B r):=Nat.mul_pos J J;omega
theorem a1n{B v j:Nat}(hB:2≤B)(hj:j < (j6.limbs B v).length):j6.y8 B ((j6.limbs B v).drop j)≠0:=by
 have hne:(j6.limbs B v).drop j≠[]:=by intro e;have:=congrArg List.length e;rw[ut]at this;simp at this;omega
 refine Pj hB _ hne ?_;rw[List.getLast_drop];exact j6.a07 hB v _
theorem Pk{v j:Nat}(h0:0 < j)(hj:j < (j6.limbs 1000000000 v).length) :
  Lib.decDigits (j6.y8 1000000000 ((j6.limbs 1000000000 v).drop (j - 1)))=Lib.decDigits (j6.y8 1000000000 ((j6.limbs 1000000000 v).drop j))++(List.replicate (9 - (Lib.decDigits ((j6.limbs 1000000000 v).getD (j - 1) 0)).length) 48++Lib.decDigits ((j6.limbs 1000000000 v).getD (j - 1) 0)):=by
 obtain⟨m,rfl⟩:∃m,j=m+1:=⟨j - 1,J⟩;rw[Zb1,j6.pK _ _ m J,j6.a08 (a1n J hj) ((j6.N7 J v).getD J m)];rfl
def eD(ng:Bool):lw:=if ng then [45] else []
theorem Qu(ng:Bool){v:Nat}(hv:v≠0):Lib.itoa (if ng then -(v:Int) else v)=eD ng++Lib.decDigits v:=by
 cases ng
 ·simp[eD,j6.nu]
 ·simp[eD,j6.xY hv]
theorem Pb(w:World)(T e:TypeId):Lib.IsBuilder T e w.heap.size w.heap.size (Lib.byteCells []) (w.alloc (.cells #[.pointer none,.slice none 0 0] T)) :=
 .inl ⟨PP _,.slice none 0 0,heap_alloc_new w _,World.ownsRow_nil _ _ _ _,by simp[Value.ownBlock]⟩
def bC(ng:Bool)(v:Nat):lw:=Lib.itoa (if ng then -(v:Int) else v)
def bD(l:lw)(w:World)(e:Ending)(w':World):Prop:=e=.returned (.string ⟨l.toArray⟩)∧Below w.heap.size w w'
theorem Hr(ng:Bool):(eD ng).length≤1:=by cases ng <;> simp[eD]
theorem Cu(ng:Bool):bC ng 0=[48]:=by cases ng <;> exact j6.gW
theorem Cm{T e:TypeId}{B b:Nat}{bs:List Value}{w w':World}(h:Lib.IsBuilder T e B b bs w)(hb:Below w.heap.size w w'):Lib.IsBuilder T e B b bs w':=by
 have key:∀p,Lib.BuilderAt T e B b p bs w→Lib.BuilderAt T e B b p bs w':=by
  rintro p ⟨h1,v,h2,h3,h4⟩;have hlt:b < w.heap.size:=by
   rcases Za5 b w.heap.size with h | h
   ·exact h
   ·rw[Zax h]at h2;cases h2
  refine⟨h1,v,(hb.block b hlt).trans h2,⟨h3.1,?_⟩,h4⟩;rcases h3.2 with hv | ⟨g,cap,cur,hv,hbg,hg,hr⟩
  ·exact .inl hv
  ·refine .inr ⟨g,cap,cur,hv,hbg,?_,hr⟩;rw[hb.block g ?_];exact hg;rcases Za5 g w.heap.size with h | h
   ·exact h
   ·rw[Zax h]at hg;cases hg
 exact h.imp (key _) (key _)
theorem yg{w W1 w':World}{T:TypeId}{u v:Value}(h:W1=w.alloc (.cells #[u,v] T))(hb:Below (w.heap.size+1) W1 w'):w'.cell? ⟨w.heap.size,0,none⟩=some u∧w'.cell? ⟨w.heap.size,1,none⟩=some v:=by
 subst h;have hk:=(D5.new w T #[u,v]).keep (hb.block w.heap.size J);exact⟨hk.cell 0,hk.cell 1⟩
theorem CW(k:Nat):((⟨#[48,48,48,48,48,48,48,48,48]⟩:ByteArray).extract k 9).size≤9:=by
 rw[Zad,Lib.extract_data,Zal,ut];simp
theorem Py(ng:Bool){v n:Nat}(hl:(j6.limbs 1000000000 v).length=n)(hn:n≤100000000)(j:Nat):(eD ng++Lib.decDigits (j6.y8 1000000000 ((j6.limbs 1000000000 v).drop j))).length≤1000000000000:=by
 have h1:=Hr ng;have h2:=j6.jG (B:=1000000000) J ((j6.N7 J v).drop j);rw[ut,hl]at h2;have h3:(1000000000:Nat) ^ (n - j)≤10 ^ (9 * n+1):=by
  have e:(1000000000:Nat)=10 ^ 9:=O;rw[e,←Nat.pow_mul];exact Zar J J
 have h4:=j6.pF (k:=9 * n+1) J (kw h2 h3);rw[lm];omega
theorem rO(ng:Bool)(A:Option Addr)(n c v:Nat)(w:World)(hx:Sl w .u32 A n c (j6.limbs 1000000000 v))(hn:n≤100000000)(ht:R9 w) :
  Calls prog 256 #[.agg #[.bool ng,.slice A n c]] w (bD (bC ng v) w):=by
 have HL:=WP hx.len;by_cases h0:n=0
 ·have hv:v=0:=(j6.mX (B:=1000000000) J).1 (q9 (by rw[HL.out];exact h0));subst h0;subst hv
  go_enter func256,ntmps256
  go_wp2;go_ret;refine⟨?_,(Below.refl _ _).alloc (PP _) _⟩;rw[Cu];rfl
 ·have hv:v≠0:=fun e=>h0 (by rw[←HL.out,e];rfl)
  have Zl:Hid (∀g,bC g v=eD g++Lib.decDigits v):=fun g=>Qu g hv
  have hb0:((n:Int) == 0)=false:=by rw[IR];omega
  obtain⟨b,off,rfl,hbl,hcx⟩:=hx.cells J;have hct:=hcx (n - 1) J;clear hcx;have hu:=getD_lt (l:=j6.limbs 1000000000 v) (j6.N7 J v) J (n - 1);have Mw:Hid (j6.y8 1000000000 ((j6.limbs 1000000000 v).drop (n - 1))=(j6.limbs 1000000000 v).getD (n - 1) 0):=by
   show _=_;rw[j6.pK _ _ (n - 1) (by rw[HL.out];omega),Zah (by rw[HL.out];omega)];simp[j6.y8]
  generalize (j6.limbs 1000000000 v).getD (n - 1) 0=u at hct hu Mw;clear hv;cases ng
  ·have HS:=WP (Zl.out false)
   go_enter func256,ntmps256
   go_wp2_with fail
   obtain⟨W1,hW1⟩:∃W1,W1=w.alloc (.cells #[.bool false,.slice (some ⟨b,off,none⟩) n c] 278):=⟨_,rfl⟩;have fE:W1.heap.size=w.heap.size+1:=by rw[hW1];simp
   have sU:Below w.heap.size w W1:=by rw[hW1];exact (Below.refl _ _).alloc (PP _) _
   rw[←hW1];have hbu:=Pb W1 299 5;rw[fE]at hbu;have hbx:Below (w.heap.size+1) W1 (W1.alloc (.cells #[.pointer none,.slice none 0 0] 299)):=(Below.refl _ _).alloc (by rw[fE];exact PP _) _;refine (vz (u:Int) _ ((ht.below sU).alloc _) J J).mono ?_;rintro e w2 ⟨rfl,hb2⟩;have zR:Below (w.heap.size+1) W1 w2:=hbx.trans (hb2.mono (by rw[World.size_alloc,fE];omega));have hB2:Lib.IsBuilder 299 5 (w.heap.size+1) (w.heap.size+1) (Lib.byteCells (eD false)) w2:=Cm hbu hb2;have HI:Hid (Lib.itoa (u:Int)=Lib.decDigits u):=j6.nu;have hdl:=j6.pF (k:=9) (u:=u) J J;rw[HI.out];obtain⟨S,hS⟩:∃S:ByteArray,S=⟨(Lib.decDigits u).toArray⟩:=⟨_,rfl⟩;rw[←hS];have AB:Hid (S.data.toList=Lib.decDigits u):=by rw[hS];exact (rfl:(Lib.decDigits u).toArray.toList=_)
   have hS9:S.size≤9:=by rw[Zad,AB.out];exact hdl
   clear hS hdl
   go_wp2_with fail
   refine (uQ (w.heap.size+1) (w.heap.size+1) _ S _ hB2 (by rw[Lib.byteCells_length];have:=Hr false;omega) (by have:=zR.size;rw[fE]at this;exact this)).mono ?_
   rintro e w3 ⟨rfl,hB3,hb3⟩;have zS:Below (w.heap.size+1) W1 w3:=zR.trans hb3;have Mx:Lib.IsBuilder 299 5 (w.heap.size+1) (w.heap.size+1) (Lib.byteCells (eD false++Lib.decDigits (j6.y8 1000000000 ((j6.limbs 1000000000 v).drop (n - 1))))) w3:=by
    rw[Mw.out,Lib.byteCells_append];have:=hB3;rw[Lib.strCells_eq,AB.out]at this;exact .inr this
   obtain⟨q0,q1⟩:=yg hW1 zS;go_wp2
   go_loopw [4] (fun ix wr=>∃j:Nat,j < n∧ix=.int .i64 ((j:Int) - 1)∧Lib.IsBuilder 299 5 (w.heap.size+1) (w.heap.size+1) (Lib.byteCells (eD false++Lib.decDigits (j6.y8 1000000000 ((j6.limbs 1000000000 v).drop j)))) wr∧Below (w.heap.size+1) W1 wr) (fun ix _=>(intOf ix+1).toNat)
   case atStart=>exact⟨n - 1,J,by go_num,Mx,zS⟩
   case round =>
    obtain⟨j,hj,rfl,hBr,hbr⟩:=hrel;obtain⟨p0,p1⟩:=yg hW1 hbr;have hbw:Below w.heap.size w wr:=sU.trans (hbr.mono J);have zU:w.heap.size+1≤wr.heap.size:=by have:=hbr.size;rw[fE]at this;exact this
    by_cases hj0:0 < j
    ·obtain⟨b',off',eA,_,hcr⟩:=(hx.below hbw).cells J;injection eA with eA
     injection eA with Nk Nl
     subst Nk Nl;have hcy:=hcr (j - 1) J;clear hcr;have hy:=getD_lt (l:=j6.limbs 1000000000 v) (j6.N7 J v) J (j - 1);have HR:=WP (Pk (v:=v) hj0 (by rw[HL.out];exact hj));generalize (j6.limbs 1000000000 v).getD (j - 1) 0=y at hcy hy HR;have hi1:(0:Int)≤(j:Int) - 1:=J;have hi2:(j:Int) - 1 < n:=J;have hi3:((j:Int) - 1).toNat=j - 1:=J
     go_wp2_with fail
     refine (vz (y:Int) _ (ht.below hbw) J J).mono ?_;rintro e w4 ⟨rfl,hb4⟩;have sV:Below (w.heap.size+1) W1 w4:=hbr.trans (hb4.mono zU);have hB4:=Cm hBr hb4;have HI2:Hid (Lib.itoa (y:Int)=Lib.decDigits y):=j6.nu;have hdl:=j6.pF (k:=9) (u:=y) J J;rw[HI2.out];obtain⟨Y,hY⟩:∃Y:ByteArray,Y=⟨(Lib.decDigits y).toArray⟩:=⟨_,rfl⟩;rw[←hY];have tY:Hid (Y.data.toList=Lib.decDigits y):=by rw[hY];exact (rfl:(Lib.decDigits y).toArray.toList=_)
     have Nn:Y.size≤9:=by rw[Zad,tY.out];exact hdl
     have Np:Hid (Y.size=(Lib.decDigits y).length):=by show _=_;rw[Zad,tY.out]
     clear hY hdl;have MB:(Lib.byteCells (eD false++Lib.decDigits (j6.y8 1000000000 ((j6.limbs 1000000000 v).drop j)))).length≤1000000000000:=by
      rw[Lib.byteCells_length];exact Py false HL.out hn j
     go_wp2_with fail
     refine (uQ (w.heap.size+1) (w.heap.size+1) _ _ _ hB4 (by have:=CW Y.size;omega) (by have:=sV.size;rw[fE]at this;exact this)).mono ?_
     rintro e w5 ⟨rfl,Nq,hb5⟩;have b4L:=MB
     go_wp2_with fail
     refine (uQ (w.heap.size+1) (w.heap.size+1) _ _ _ (.inr Nq) (by rw[lm,Lib.strCells_length];have:=CW Y.size;omega) (by have:=(sV.trans hb5).size;rw[fE]at this;exact this)).mono ?_
     rintro e w6 ⟨rfl,Nr,hb6⟩;have Ns:Lib.IsBuilder 299 5 (w.heap.size+1) (w.heap.size+1) (Lib.byteCells (eD false++Lib.decDigits (j6.y8 1000000000 ((j6.limbs 1000000000 v).drop (j - 1))))) w6:=by
      rw[HR.out,←Zaf,←Zaf,Lib.byteCells_append,Lib.byteCells_append];have:=Nr;rw[Lib.strCells_eq,Lib.strCells_eq,Qt _ Nn,Np.out,tY.out]at this;exact .inr this
     have MC:=(sV.trans hb5).trans hb6;go_wp2
     go_roundw
     case rel=>exact⟨j - 1,J,by go_num,Ns,MC⟩
     case measure=>simp only[intOf];omega
    ·have hjz:j=0:=J;subst hjz
     go_wp2_with fail
     refine (Tryz.Builder_String_any (w.heap.size+1) (w.heap.size+1) _ _ hBr zU).mono ?_;rintro e w7 ⟨rfl,X9⟩;go_wp2;go_ret;refine⟨?_,sU.trans ((hbr.trans X9).mono J)⟩;rw[HS.out,j6.H8 J];rfl
  ·have HS:=WP (Zl.out true)
   go_enter func256,ntmps256
   go_wp2_with fail
   obtain⟨W1,hW1⟩:∃W1,W1=w.alloc (.cells #[.bool true,.slice (some ⟨b,off,none⟩) n c] 278):=⟨_,rfl⟩;have fE:W1.heap.size=w.heap.size+1:=by rw[hW1];simp
   have sU:Below w.heap.size w W1:=by rw[hW1];exact (Below.refl _ _).alloc (PP _) _
   rw[←hW1];have hbu:=Pb W1 299 5;rw[fE]at hbu;have hbx:Below (w.heap.size+1) W1 (W1.alloc (.cells #[.pointer none,.slice none 0 0] 299)):=(Below.refl _ _).alloc (by rw[fE];exact PP _) _;refine (a1a (w.heap.size+1) (w.heap.size+1) _ 45 _ hbu (by simp[Lib.byteCells]) (by rw[World.size_alloc,fE];omega)).mono ?_;rintro e w9 ⟨rfl,hB9,Fy⟩;have EJ:=hbx.trans Fy;have Yk:Below w.heap.size w w9:=sU.trans (EJ.mono J);have b4M:w.heap.size+1≤w9.heap.size:=by have:=EJ.size;rw[fE]at this;exact this
   obtain⟨s0,s1⟩:=yg hW1 EJ;have b9j:=(Yk.cell (p:=⟨b,off+(n - 1),none⟩) hbl).trans hct
   go_wp2_with fail
   refine (vz (u:Int) _ (ht.below Yk) J J).mono ?_;rintro e w2 ⟨rfl,hb2⟩;have zR:Below (w.heap.size+1) W1 w2:=EJ.trans (hb2.mono b4M);have hB2:Lib.IsBuilder 299 5 (w.heap.size+1) (w.heap.size+1) (Lib.byteCells (eD true)) w2:=Cm (.inr hB9) hb2;have HI:Hid (Lib.itoa (u:Int)=Lib.decDigits u):=j6.nu;have hdl:=j6.pF (k:=9) (u:=u) J J;rw[HI.out];obtain⟨S,hS⟩:∃S:ByteArray,S=⟨(Lib.decDigits u).toArray⟩:=⟨_,rfl⟩;rw[←hS];have AB:Hid (S.data.toList=Lib.decDigits u):=by rw[hS];exact (rfl:(Lib.decDigits u).toArray.toList=_)
   have hS9:S.size≤9:=by rw[Zad,AB.out];exact hdl
   clear hS hdl
   go_wp2_with fail
   refine (uQ (w.heap.size+1) (w.heap.size+1) _ S _ hB2 (by rw[Lib.byteCells_length];have:=Hr true;omega) (by have:=zR.size;rw[fE]at this;exact this)).mono ?_
   rintro e w3 ⟨rfl,hB3,hb3⟩;have zS:Below (w.heap.size+1) W1 w3:=zR.trans hb3;have Mx:Lib.IsBuilder 299 5 (w.heap.size+1) (w.heap.size+1) (Lib.byteCells (eD true++Lib.decDigits (j6.y8 1000000000 ((j6.limbs 1000000000 v).drop (n - 1))))) w3:=by
    rw[Mw.out,Lib.byteCells_append];have:=hB3;rw[Lib.strCells_eq,AB.out]at this;exact .inr this
   obtain⟨q0,q1⟩:=yg hW1 zS;go_wp2
   go_loopw [4] (fun ix wr=>∃j:Nat,j < n∧ix=.int .i64 ((j:Int) - 1)∧Lib.IsBuilder 299 5 (w.heap.size+1) (w.heap.size+1) (Lib.byteCells (eD true++Lib.decDigits (j6.y8 1000000000 ((j6.limbs 1000000000 v).drop j)))) wr∧Below (w.heap.size+1) W1 wr) (fun ix _=>(intOf ix+1).toNat)
   case atStart=>exact⟨n - 1,J,by go_num,Mx,zS⟩
   case round =>
    obtain⟨j,hj,rfl,hBr,hbr⟩:=hrel;obtain⟨p0,p1⟩:=yg hW1 hbr;have hbw:Below w.heap.size w wr:=sU.trans (hbr.mono J);have zU:w.heap.size+1≤wr.heap.size:=by have:=hbr.size;rw[fE]at this;exact this
    by_cases hj0:0 < j
    ·obtain⟨b',off',eA,_,hcr⟩:=(hx.below hbw).cells J;injection eA with eA
     injection eA with Nk Nl
     subst Nk Nl;have hcy:=hcr (j - 1) J;clear hcr;have hy:=getD_lt (l:=j6.limbs 1000000000 v) (j6.N7 J v) J (j - 1);have HR:=WP (Pk (v:=v) hj0 (by rw[HL.out];exact hj));generalize (j6.limbs 1000000000 v).getD (j - 1) 0=y at hcy hy HR;have hi1:(0:Int)≤(j:Int) - 1:=J;have hi2:(j:Int) - 1 < n:=J;have hi3:((j:Int) - 1).toNat=j - 1:=J
     go_wp2_with fail
     refine (vz (y:Int) _ (ht.below hbw) J J).mono ?_;rintro e w4 ⟨rfl,hb4⟩;have sV:Below (w.heap.size+1) W1 w4:=hbr.trans (hb4.mono zU);have hB4:=Cm hBr hb4;have HI2:Hid (Lib.itoa (y:Int)=Lib.decDigits y):=j6.nu;have hdl:=j6.pF (k:=9) (u:=y) J J;rw[HI2.out];obtain⟨Y,hY⟩:∃Y:ByteArray,Y=⟨(Lib.decDigits y).toArray⟩:=⟨_,rfl⟩;rw[←hY];have tY:Hid (Y.data.toList=Lib.decDigits y):=by rw[hY];exact (rfl:(Lib.decDigits y).toArray.toList=_)
     have Nn:Y.size≤9:=by rw[Zad,tY.out];exact hdl
     have Np:Hid (Y.size=(Lib.decDigits y).length):=by show _=_;rw[Zad,tY.out]
     clear hY hdl;have MB:(Lib.byteCells (eD true++Lib.decDigits (j6.y8 1000000000 ((j6.limbs 1000000000 v).drop j)))).length≤1000000000000:=by
      rw[Lib.byteCells_length];exact Py true HL.out hn j
     go_wp2_with fail
     refine (uQ (w.heap.size+1) (w.heap.size+1) _ _ _ hB4 (by have:=CW Y.size;omega) (by have:=sV.size;rw[fE]at this;exact this)).mono ?_
     rintro e w5 ⟨rfl,Nq,hb5⟩;have b4L:=MB
     go_wp2_with fail
     refine (uQ (w.heap.size+1) (w.heap.size+1) _ _ _ (.inr Nq) (by rw[lm,Lib.strCells_length];have:=CW Y.size;omega) (by have:=(sV.trans hb5).size;rw[fE]at this;exact this)).mono ?_
     rintro e w6 ⟨rfl,Nr,hb6⟩;have Ns:Lib.IsBuilder 299 5 (w.heap.size+1) (w.heap.size+1) (Lib.byteCells (eD true++Lib.decDigits (j6.y8 1000000000 ((j6.limbs 1000000000 v).drop (j - 1))))) w6:=by
      rw[HR.out,←Zaf,←Zaf,Lib.byteCells_append,Lib.byteCells_append];have:=Nr;rw[Lib.strCells_eq,Lib.strCells_eq,Qt _ Nn,Np.out,tY.out]at this;exact .inr this
     have MC:=(sV.trans hb5).trans hb6;go_wp2
     go_roundw
     case rel=>exact⟨j - 1,J,by go_num,Ns,MC⟩
     case measure=>simp only[intOf];omega
    ·have hjz:j=0:=J;subst hjz
     go_wp2_with fail
     refine (Tryz.Builder_String_any (w.heap.size+1) (w.heap.size+1) _ _ hBr zU).mono ?_;rintro e w7 ⟨rfl,X9⟩;go_wp2;go_ret;refine⟨?_,sU.trans ((hbr.trans X9).mono J)⟩;rw[HS.out,j6.H8 J];rfl
theorem Sl.one(w:World)(k:IntKind)(E:TypeId)(y:Nat):Sl (w.alloc (.cells #[.int k (y:Int)] E)) k (some ⟨w.heap.size,0,none⟩) 1 1 [y] :=
 ⟨rfl,PP _,fun _=>⟨w.heap.size,0,rfl,I,fun i hi=>by
  obtain rfl:i=0:=J;exact (D5.new w E #[.int k (y:Int)]).cell 0⟩⟩
def Zm(a b:Nat)(w:World)(e:Ending)(w':World):Prop:=e=.returned (.bool (decide (b < a)))∧Below w.heap.size w w'
theorem Sl.ma{w:World}{k:IntKind}{A:Option Addr}{n c:Nat}{l:List Nat}(h:Sl w k A n c l):Sl w.drew k A n c l:=⟨h.len,h.cap,h.cells⟩
theorem Sl.alloc{w:World}{k:IntKind}{A:Option Addr}{n c:Nat}{l:List Nat}(h:Sl w k A n c l)(o:Obj):Sl (w.alloc o) k A n c l:=h.below ((Below.refl _ _).alloc (PP _) _)
theorem Ei{w w':World}{p q:Nat}{u v:Value}(hb:Below w.heap.size w w')(hp:w.cell? ⟨p,0,none⟩=some u)(hq:w.cell? ⟨q,0,none⟩=some v):w'.cell? ⟨p,0,none⟩=some u∧w'.cell? ⟨q,0,none⟩=some v :=
 ⟨(hb.cell (p:=⟨p,0,none⟩) (World.block_lt_of_cell? _ _ hp)).trans hp,(hb.cell (p:=⟨q,0,none⟩) (World.block_lt_of_cell? _ _ hq)).trans hq⟩
theorem a3O(a b:Nat):decide (0 < dJ a b)=decide (b < a):=by
 rcases Nat.lt_trichotomy a b with h | h | h
 ·rw[lK h,WF J,WF J]
 ·subst h;rw[qa,WF J,WF J]
 ·rw[lL h,Pi J,Pi J]
theorem yx{b n:Nat}(h:(j6.limbs 1000000000 b).length=n):b < 1000000000 ^ n:=by
 have:=j6.jG (B:=1000000000) J (j6.N7 J b)
 rwa [j6.H8 J,h]at this
theorem a0Q{b k n:Nat}(h:(j6.limbs 1000000000 b).length=n)(hk:k < 1000000000):(j6.limbs 1000000000 (b * k)).length≤n+1:=by
 apply j6.xM J;have h1:=yx h;rw[ZaM];rcases Zaa k with e | e
 ·subst e;rw[Nat.mul_zero];exact Nat.mul_pos (Nat.pow_pos J) J
 ·exact Nat.mul_lt_mul'' h1 hk
theorem a1H(pb pr:Nat)(A A':Option Addr)(n n' c c' b r k:Nat)(w:World)(hpb:w.cell? ⟨pb,0,none⟩=some (.slice A n c))(hpr:w.cell? ⟨pr,0,none⟩=some (.slice A' n' c'))
  (hb:Sl w .u32 A n c (j6.limbs 1000000000 b)) (hr:Sl w .u32 A' n' c' (j6.limbs 1000000000 r)) (hn:n≤10000000) (hn':n'≤10000000) (hk:k < 1000000000) :
  Calls prog 286 #[.int .i64 (k:Int),.pointer (some ⟨pb,0,none⟩),.pointer (some ⟨pr,0,none⟩)] w (Zm (b * k) r w):=by
 have hlb:=World.block_lt_of_cell? _ _ hpb;have hlr:=World.block_lt_of_cell? _ _ hpr;have hbW:Below w.heap.size w (w.alloc (.cells #[.int .u32 (k:Int)] 267)).drew:=((Below.refl _ _).alloc (PP _) _).drew;have hT:=Iz A (some ⟨w.heap.size,0,none⟩) n 1 c 1 _ [k] (w.alloc (.cells #[.int .u32 (k:Int)] 267)).drew ((hb.alloc _).ma) ((Sl.one w .u32 267 k).ma) J J (j6.N7 J b) (j6.Small.cons hk j6.Small.nil);rw[j6.H8 J,show j6.y8 1000000000 [k]=k by simp[j6.y8]]at hT
 have HT:=WP hT;clear hT;have HLb:=WP hb.len;have hw32:IntKind.u32.wrap (k:Int)=k:=by rw[IntKind.wrap_u32];omega
 go_enter func286,ntmps286
 go_wp2
 go_region_held3 (fun w'=>w'.cell? ⟨pb,0,none⟩=some (.slice A n c)∧w'.cell? ⟨pr,0,none⟩=some (.slice A' n' c')) (go_keep)
  (first | (go_at_call 258;refine HT.out.mono ?_;rintro e w1 ⟨A1,n1,c1,rfl,hs1,hb1,_⟩;have fZ:=hbW.trans (hb1.mono hbW.size);obtain⟨q1,q2⟩:=Ei fZ hpb hpr;have HC:=WP (uV 1000000000 J A1 A' n1 n' c1 c' (b * k) r w1 hs1 (hr.below fZ) (by have:=a0Q HLb.out hk;rw[hs1.len]at this;omega) J)) | (go_at_call 275;refine HC.out.mono ?_;rintro e w2 ⟨rfl,q,rfl⟩))
 go_wp2;go_ret;exact⟨by rw[←a3O];rfl,below_drewN fZ _⟩
def Vk(k:IntKind)(v:Nat)(w:World)(e:Ending)(w':World):Prop:=e=.returned (.int k (v:Int))∧Below w.heap.size w w'
theorem a1I{r b h:Nat}(hb:0 < b):r < b * h↔r / b < h:=by
 rw[Nat.div_lt_iff_lt_mul hb,ZaW]
theorem a2f(pb pr:Nat)(A A':Option Addr)(n n' c c' b r:Nat)(w:World)(hpb:w.cell? ⟨pb,0,none⟩=some (.slice A n c))(hpr:w.cell? ⟨pr,0,none⟩=some (.slice A' n' c'))
  (hb:Sl w .u32 A n c (j6.limbs 1000000000 b)) (hr:Sl w .u32 A' n' c' (j6.limbs 1000000000 r)) (hn:n≤10000000) (hn':n'≤10000000) (hb0:0 < b) (hq:r / b < 1000000000) :
  Calls prog 285 #[.int .i64 1000000000,.func (.func 286) #[] #[.pointer (some ⟨pb,0,none⟩),.pointer (some ⟨pr,0,none⟩)]] w (Vk .i64 (r / b+1) w):=by
 have HQ:Hid (∀h,decide (r < b * h)=decide (r / b < h)):=fun h=>by rw[Zab];exact a1I hb0
 generalize r / b=d at hq HQ
 go_enter func285,ntmps285
 go_wp2
 go_loopw [5,6] (fun s5 s6 wr=>∃lo hi:Nat,s5=.int .i64 lo∧s6=.int .i64 hi∧lo≤d+1∧d+1≤hi∧hi≤1000000000∧Below w.heap.size w wr) (fun s5 s6 _=>(intOf s6 - intOf s5).toNat)
 case atStart=>exact⟨0,1000000000,rfl,rfl,J,J,J,Below.refl _ _⟩
 case round =>
  obtain⟨lo,hi,rfl,rfl,h1,h2,h3,hbr⟩:=hrel;by_cases hlt:lo < hi
  ·obtain⟨p1,p2⟩:=Ei hbr hpb hpr;have hc:=a1H pb pr A A' n n' c c' b r ((lo+hi) / 2) wr p1 p2 (hb.below hbr) (hr.below hbr) hn hn' J;unfold Zm at hc;rw[HQ.out,show (((lo+hi) / 2:Nat):Int)=((lo:Int)+(hi:Int)) / 2 by omega]at hc
   by_cases hm:d < (lo+hi) / 2
   ·rw[Pi hm]at hc;have HC:=WP hc;clear hc
    go_wp2_with (go_at_call 286;refine HC.out.mono ?_;rintro e w1 ⟨rfl,hb1⟩)
    go_roundw
    case rel=>exact⟨lo,(lo+hi) / 2,rfl,by go_num,h1,J,J,hbr.trans (hb1.mono hbr.size)⟩
    case measure=>simp only[intOf];omega
   ·rw[WF hm]at hc;have HC:=WP hc;clear hc
    go_wp2_with (go_at_call 286;refine HC.out.mono ?_;rintro e w1 ⟨rfl,hb1⟩)
    go_roundw
    case rel=>exact⟨(lo+hi) / 2+1,hi,by go_num,rfl,J,h2,h3,hbr.trans (hb1.mono hbr.size)⟩
    case measure=>simp only[intOf];omega
  ·have e:lo=d+1:=J;subst e;go_wp2;go_ret;exact⟨rfl,hbr⟩
section
variable {P:Program} {w:World}
theorem a3P(base:Nat)(t ty E:TypeId)(k:IntKind)(bytes:Nat)(ht:P.underlying t=some (.slice E))(hinfo:(P.info? E).map (fun i=>(i.zero,i.size,i.bytes))=some (some (.int k 0),1,bytes))(hbytes:bytes≤8)
  (A:Option Addr) (n c:Nat) (l:List Nat) (hown:Own w base E k A n c l) (A':Option Addr) (m c':Nat) (l':List Nat) (hs:Sl w k A' m c' l')
  (hn:n+m≤1000000000000) (hbase:base≤w.heap.size) :
  ∃A2 c2 w2,(Builtin.append_ #[t,t] ty #[.slice A n c,.slice A' m c']).run P w=.ok (.slice A2 (n+m) c2) w2∧Own w2 base E k A2 (n+m) c2 (l++l') ∧
   (∀g,g < w.heap.size→A≠some ⟨g,0,none⟩→w2.heap[g]?=w.heap[g]?)∧w.heap.size≤w2.heap.size∧w2.os=w.os∧w2.tape=w.tape∧w2.output=w.output:=by
 obtain⟨i0,hi0,hz0,hz1,hz2⟩:=info_parts hinfo;have hAn:A=none∨∃g,A=some ⟨g,0,none⟩:=by
  rcases hown.own.2 with⟨hv,_⟩ | ⟨g,cap,cur,hv,_⟩
  ·simp only[Za6]at hv;exact .inl hv.1
  ·simp only[Za6]at hv;exact .inr ⟨g,hv.1⟩
 rcases A' with _ | ad
 ·have hm:m=0:=by
   rcases Zaa m with h0 | h0
   ·exact h0
   ·obtain⟨b,o,e,_⟩:=hs.cells h0;cases e
  subst hm;have hl:l'=[]:=q9 hs.len;subst hl;refine⟨A,c,w,?_,by simpa using hown,fun _ _ _=>rfl,PP _,rfl,rfl,rfl⟩;rcases hown.own.2 with⟨hv,h0⟩ | ⟨g,cap,cur,hv,_,_,hnc,_⟩
  ·simp only[Za6]at hv;obtain⟨rfl,rfl,rfl⟩:=hv;simp[Builtin.append_,Zac ht,sizeOf,typeInfo,hi0,Builtin.lenOf,Builtin.firstCells]
  ·simp only[Za6]at hv;obtain⟨rfl,_,rfl⟩:=hv;simp[Builtin.append_,Zac ht,sizeOf,typeInfo,hi0,Builtin.lenOf,Builtin.firstCells,hnc,storeCells]
 ·have hcells:∀j u,(l'.map fun x=>Value.int k (x:Nat))[j]?=some u→w.cell? (ad.add j)=some u:=by
   intro j u hu;have hj:j < m:=by
    rw[←hs.len];rcases Za5 j l'.length with h | h
    ·exact h
    ·rw[Za4 (by simpa using h)]at hu;cases hu
   obtain⟨b,o,e,_,hc⟩:=hs.cells J;injection e with e
   subst e;have e2:(⟨b,o,none⟩:Addr).add j=⟨b,o+j,none⟩:=by
    unfold Addr.add;split
    ·subst j;rfl
    ·rfl
   rw[e2,hc j hj];rw[bi,ww (by rw[hs.len];exact hj)]at hu;rw[AC,ww (by rw[hs.len];exact hj)];simpa using hu
  obtain⟨v',w',hrun,h2,h3,h4,h5⟩:=run_append_own_at (P:=P) w base t ty E i0 (.int k 0) 1 bytes ht hi0 hz0 hz1 hz2 rfl J _ n _ hown.own ad m c' (l'.map fun x=>Value.int k (x:Nat)) (by simp[hs.len]) hcells (by
   intro u hu;obtain⟨x,_,rfl⟩:=Zaw.1 hu;rfl) (by unfold maxLen;omega) (by
   have:(n+m) * bytes≤1000000000000 * 8:=Nat.mul_le_mul hn hbytes;omega) hbase
  obtain⟨A2,c2,rfl⟩:∃A2 c2,v'=.slice A2 (n+m) c2:=by
   rcases h2.2 with⟨rfl,h0⟩ | ⟨g,cap,cur,rfl,_⟩
   ·exact⟨none,0,by rw[h0]⟩
   ·exact⟨_,_,rfl⟩
  refine⟨A2,c2,w',hrun,⟨by simpa using h2⟩,fun g hg hne=>h3.block g hg (fun e=>?_),h3.size,h3.os,h3.tape,h3.output⟩;rcases hAn with rfl | ⟨g',rfl⟩
  ·simp[Value.ownBlock]at e
  ·simp[Value.ownBlock]at e;subst e;exact hne rfl
theorem Tf{o:Oper}{a:Act}{K:Act→World→Prop}{Q:Exit→Act→World→Prop}(s x:Operand)(t:TypeId)
  (ho:o.op=.call { callee:=.builtin .append,args:=#[s,x],argTypes:=#[t,t] })
  (base:Nat) (E:TypeId) (k:IntKind) (bytes:Nat) (ht:P.underlying t=some (.slice E)) (hinfo:(P.info? E).map (fun i=>(i.zero,i.size,i.bytes))=some (some (.int k 0),1,bytes)) (hbytes:bytes≤8)
  (A:Option Addr) (n c:Nat) (l:List Nat) (hs:a.eval s=.slice A n c) (hown:Own w base E k A n c l) (A':Option Addr) (m c':Nat) (l':List Nat) (hx:a.eval x=.slice A' m c') (hsl:Sl w k A' m c' l')
  (hn:n+m≤1000000000000) (hbase:base≤w.heap.size)
  (h:∀A2 c2 w2,Own w2 base E k A2 (n+m) c2 (l++l')→(∀g,g < w.heap.size→A≠some ⟨g,0,none⟩→w2.heap[g]?=w.heap[g]?)→w.heap.size≤w2.heap.size→w2.os=w.os→w2.tape=w.tape→w2.output=w.output→K (a.put o.dst (.slice A2 (n+m) c2)) w2):o.wp P a w K Q:=by
 obtain⟨A2,c2,w2,hrun,h2,h3,h4,h5,h6,h7⟩:=a3P (P:=P) base t o.type E k bytes ht hinfo hbytes A n c l hown A' m c' l' hsl hn hbase;unfold Oper.wp execOp;simp only[ho,resolve,invoke,builtin,lc,d9,Result.andThen_ok,List.map_toArray,Zaq,List.map_nil,hs,hx,hrun];exact h A2 c2 w2 h2 h3 h4 h5 h6 h7
theorem a2N{ops:Array Oper}{o:Oper}{a:Act}{K:Act→World→Prop}{Q:Exit→Act→World→Prop}{F:Prop}(hgd:o.guard=none)(s x:Operand)(t:TypeId)
  (ho:o.op=.call { callee:=.builtin .append,args:=#[s,x],argTypes:=#[t,t] })
  (base:Nat) (E:TypeId) (k:IntKind) (bytes:Nat) (ht:P.underlying t=some (.slice E)) (hinfo:(P.info? E).map (fun i=>(i.zero,i.size,i.bytes))=some (some (.int k 0),1,bytes)) (hbytes:bytes≤8)
  (A:Option Addr) (n c:Nat) (l:List Nat) (hs:a.eval s=.slice A n c) (hown:Own w base E k A n c l) (A':Option Addr) (m c':Nat) (l':List Nat) (hx:a.eval x=.slice A' m c') (hsl:Sl w k A' m c' l')
  (hn:n+m≤1000000000000) (hbase:base≤w.heap.size)
  (h:∀A2 c2 w2,Own w2 base E k A2 (n+m) c2 (l++l')→(∀g,g < w.heap.size→A≠some ⟨g,0,none⟩→w2.heap[g]?=w.heap[g]?)→w.heap.size≤w2.heap.size→w2.os=w.os→w2.tape=w.tape→w2.output=w.output→K (a.put o.dst (.slice A2 (n+m) c2)) w2) :
  if Region.wanted o (yielded ops a.tmps)=true then Oper.wp P o a w K Q else F:=by
 have hw:Region.wanted o (yielded ops a.tmps)=true:=by simp[Region.wanted,hgd]
 rw[Ch hw];exact Tf s x t ho base E k bytes ht hinfo hbytes A n c l hs hown A' m c' l' hx hsl hn hbase h
theorem a1J{ops:Array Oper}{rest:List Oper}{o:Oper}{a:Act}{Q:Exit→Act→World→Prop}(hgd:o.guard=none)(s x:Operand)(t:TypeId)
  (ho:o.op=.call { callee:=.builtin .append,args:=#[s,x],argTypes:=#[t,t] })
  (base:Nat) (E:TypeId) (k:IntKind) (bytes:Nat) (ht:P.underlying t=some (.slice E)) (hinfo:(P.info? E).map (fun i=>(i.zero,i.size,i.bytes))=some (some (.int k 0),1,bytes)) (hbytes:bytes≤8)
  (A:Option Addr) (n c:Nat) (l:List Nat) (hs:a.eval s=.slice A n c) (hown:Own w base E k A n c l) (A':Option Addr) (m c':Nat) (l':List Nat) (hx:a.eval x=.slice A' m c') (hsl:Sl w k A' m c' l')
  (hn:n+m≤1000000000000) (hbase:base≤w.heap.size)
  (h:∀A2 c2 w2,Own w2 base E k A2 (n+m) c2 (l++l')→(∀g,g < w.heap.size→A≠some ⟨g,0,none⟩→w2.heap[g]?=w.heap[g]?)→w.heap.size≤w2.heap.size→w2.os=w.os→w2.tape=w.tape→w2.output=w.output→wpList P ops Q rest (a.put o.dst (.slice A2 (n+m) c2)) w2):wpList P ops Q (o::rest) a w :=
 wpList_plain hgd fun _ hK=>Tf s x t ho base E k bytes ht hinfo hbytes A n c l hs hown A' m c' l' hx hsl hn hbase fun A2 c2 w2 h2 h3 h4 h5 h6 h7=>hK _ _ (h A2 c2 w2 h2 h3 h4 h5 h6 h7)
end
theorem Sl.far{w:World}{k:IntKind}{A:Option Addr}{n c:Nat}{l:List Nat}(h:Sl w k A n c l){p:Addr}(hp:∀b o,A=some ⟨b,o,none⟩→b≠p.block)(u:Value):Sl (w.setCell p u) k A n c l :=
 ⟨h.len,h.cap,fun hn=>by
  obtain⟨b,o,e,hlt,hc⟩:=h.cells hn;refine⟨b,o,e,by simpa[World.setCell] using hlt,fun i hi=>?_⟩;have hne:=hp b o e;rw[World.cell?_setCell_other w p ⟨b,o+i,none⟩ u (fun e=>hne (by rw[e]))];exact hc i hi⟩
theorem a2g{wr w2:World}{o:Obj}(hblk:∀g,g < (wr.alloc o).drew.heap.size→(some ⟨wr.heap.size,0,none⟩:Option Addr)≠some ⟨g,0,none⟩→w2.heap[g]?=(wr.alloc o).drew.heap[g]?)(hsz:(wr.alloc o).drew.heap.size≤w2.heap.size)
    (hos:w2.os=(wr.alloc o).drew.os) (htp:w2.tape=(wr.alloc o).drew.tape) (hou:w2.output=(wr.alloc o).drew.output):Below wr.heap.size wr w2 :=
  ⟨hos,htp,hou,by
                     have:(wr.alloc o).drew.heap.size=wr.heap.size+1:=I;omega,fun g hg=>(hblk g (by simp;omega) (by intro e;injection e with e;injection e with e;omega)).trans (Below.heap_alloc wr _ g hg)⟩
theorem set_drop(q:List Nat)(i d:Nat)(h:i < q.length):(q.set i d).drop i=d::q.drop (i+1):=by
 rw[ZaC (by simpa using h),List.getElem_set_self,List.drop_set_of_lt J]
theorem a0V(u R:Nat):j6.y8 1000000000 ([u]++j6.limbs 1000000000 R)=u+1000000000 * R:=by
 show u+1000000000 * j6.y8 1000000000 (j6.limbs 1000000000 R)=_;rw[j6.H8 J]
theorem a0R{u:Nat}(hu:u < 1000000000)(R:Nat):j6.Small 1000000000 ([u]++j6.limbs 1000000000 R):=j6.Small.cons hu (j6.N7 J R)
theorem a3Q{a b R u j:Nat}{q:List Nat}(hj:0 < j)(hja:j≤(j6.limbs 1000000000 a).length)(hjq:j≤q.length)(hu:(j6.limbs 1000000000 a).getD (j - 1) 0=u)
  (h:j6.y8 1000000000 ((j6.limbs 1000000000 a).drop j)=j6.y8 1000000000 (q.drop j) * b+R) :
  j6.y8 1000000000 ((j6.limbs 1000000000 a).drop (j - 1))=j6.y8 1000000000 ((q.set (j - 1) ((u+1000000000 * R) / b)).drop (j - 1)) * b+(u+1000000000 * R) % b:=by
 obtain⟨m,rfl⟩:∃m,j=m+1:=⟨j - 1,J⟩;rw[Zb1]at hu ⊢
 rw[set_drop _ _ _ J,j6.pK _ _ m J,hu,j6.y8];exact j6.Qp h
theorem EL{w:World}{g:Nat}{t:TypeId}{v:Value}(h:D5 w g t #[v]):w.cell? ⟨g,0,none⟩=some v∧w.frozen? ⟨g,0,none⟩=false:=⟨h.cell 0,h.frozen 0⟩
theorem a2O(A:Option Addr)(n c:Nat)(l:List Nat)(w:World)(h:Sl w .u32 A n c l)(hn:n≤1000000000) :
  Calls prog 278 #[.slice A n c] w fun e w'=>e=.returned (.slice A (j6.U3 l).length c)∧w'=w :=
 (pR A n c l w h hn).mono fun _ _ h=>⟨h.1,h.2.symm⟩
def a9E(a b:Nat)(w:World)(e:Ending)(w':World):Prop :=
 ∃A n c A' n' c',e=.returned (.tuple #[.slice A n c,.slice A' n' c'])∧Sl w' .u32 A n c (j6.limbs 1000000000 (a / b))∧Sl w' .u32 A' n' c' (j6.limbs 1000000000 (a % b))∧Below w.heap.size w w'
theorem Im(A A':Option Addr)(n n' c c' a b:Nat)(w:World)(hx:Sl w .u32 A n c (j6.limbs 1000000000 a))(hy:Sl w .u32 A' n' c' (j6.limbs 1000000000 b))(hn:n≤2500000)(hn':n'≤2500000)(hb0:0 < b) :
  Calls prog 264 #[.slice A n c,.slice A' n' c'] w (a9E a b w):=by
 have AJ:=WP hx.len;have FB:=WP hy.len
 go_enter func264,ntmps264
 go_wp2_with (at_make;refine yf (w0:=w) rfl _ _ _ rfl 267 .u32 4 Tryz.underlying276 iQ J _ _ _ _ n rfl rfl J J J ((Below.refl _ _).alloc (PP _) _) ?_;intro w1 hown1 hb1 hbW1 hsz1)
 simp only[World.size_alloc]at hsz1 hown1 hbW1
 go_loopw [8,9] (fun ix dg wr=>∃(j R nr cr:Nat) (Ar:Option Addr) (q:List Nat),j≤n∧ix=.int .i64 ((j:Int) - 1)∧Hid (D5 wr w.heap.size 276 #[.slice A' n' c'])∧Hid (D5 wr w1.heap.size 276 #[.slice Ar nr cr])∧Sl wr .u32 Ar nr cr (j6.limbs 1000000000 R)∧Hid (∀b o,Ar=some ⟨b,o,none⟩→b≠w.heap.size+1∧b≠w1.heap.size)∧R < b∧Own wr w.heap.size 267 .u32 (some ⟨w.heap.size+1,0,none⟩) n n q∧j6.Small 1000000000 q∧Hid (j6.y8 1000000000 ((j6.limbs 1000000000 a).drop j)=j6.y8 1000000000 (q.drop j) * b+R)∧Below w.heap.size w wr) (fun ix _ _=>(intOf ix+1).toNat)
 case atStart =>
  refine⟨n,0,0,0,none,List.replicate n 0,PP _,rfl,?_,?_,Sl.nil _ _ _ _,?_,hb0,?_,Ck _ _ J,?_,?_⟩
  ·have h1:=(D5.new w 276 #[.slice A' n' c']).keep (hbW1.block w.heap.size J);exact WP (h1.alloc _)
  ·exact WP (D5.new w1 _ _)
  ·exact WP (fun _ _ e=>by cases e)
  ·exact hown1.alloc _
  ·exact WP (by rw[Zah (by rw[AJ.out];exact PP _),Zah I];simp[j6.y8])
  ·exact hb1.alloc hb1.size _
 case round =>
  obtain⟨j,R,nr,cr,Ar,q,hj,rfl,HB1,HB2,ou,HA,hR,hown,xx,HV,hb⟩:=hrel;have xy:=WP ou.len;have hnr:nr≤n':=by
   rw[←xy.out,←FB.out];exact j6.aS J J
  have c1:=HB1.out.cell 0;have c2:=HB2.out.cell 0;simp only[List.getElem?_toArray,List.getElem?_cons_zero]at c1 c2;have f2:=HB2.out.frozen 0;have hl2:=HB2.out.lt;by_cases hj0:0 < j
  ·obtain⟨bx,ox,rfl,hbx,hcx⟩:=(hx.below hb).cells J;have aC:=hcx (j - 1) J;clear hcx;have hu:=getD_lt (l:=j6.limbs 1000000000 a) (j6.N7 J a) J (j - 1);generalize hu0:(j6.limbs 1000000000 a).getD (j - 1) 0=u at aC hu;have AL:=WP hu0;clear hu0;have hi1:(0:Int)≤(j:Int) - 1:=J;have hi2:(j:Int) - 1 < n:=J;have hi3:((j:Int) - 1).toNat=j - 1:=J;have AO:Own (wr.alloc (.cells #[.int .u32 (u:Int)] 267)).drew wr.heap.size 267 .u32 (some ⟨wr.heap.size,0,none⟩) 1 1 [u]:=⟨⟨rfl,.inr ⟨wr.heap.size,1,#[.int .u32 (u:Int)],rfl,PP _,heap_alloc_new wr _,PP _,by unfold maxLen;omega,rfl,rfl⟩⟩⟩;have AP:Sl (wr.alloc (.cells #[.int .u32 (u:Int)] 267)).drew .u32 Ar nr cr (j6.limbs 1000000000 R):=(ou.alloc _).ma;have HU:Hid ((j6.limbs 1000000000 a).getD (j - 1) 0=u):=AL;have hqn:q.length=n:=hown.len;have HST:=WP (a3Q (b:=b) hj0 (by rw[AJ.out];exact hj) J HU.out HV.out);clear hqn;obtain⟨R',hR'⟩:∃R',R'=u+1000000000 * R:=⟨_,rfl⟩;rw[←hR']at HST;have FC:=WP hR';clear hR'
   go_upto_region 6 with (fail)
   go_cut [8] (fun s8 wx=>s8=.int .i64 ((j:Int) - 1)∧∃(A2:Option Addr) (n2 iG:Nat),Hid (D5 wx w.heap.size 276 #[.slice A' n' c'])∧Hid (D5 wx w1.heap.size 276 #[.slice A2 n2 iG])∧Sl wx .u32 A2 n2 iG (j6.limbs 1000000000 R')∧Hid (∀b o,A2=some ⟨b,o,none⟩→b≠w.heap.size+1∧b≠w1.heap.size)∧n2≤n'+1∧Own wx w.heap.size 267 .u32 (some ⟨w.heap.size+1,0,none⟩) n n q∧Below w.heap.size w wx)
   case first =>
    go_region_law
     (first | (refine a2N rfl _ _ _ rfl wr.heap.size 267 .u32 4 Tryz.underlying276 iQ J _ _ _ [u] rfl AO _ _ _ _ rfl AP J I ?_;intro A2 iG w2 hown2 hblk2 hsz2 zV zW zX;have hbw2:=a2g hblk2 hsz2 zV zW zX;clear hblk2 hsz2 zV zW zX;have k1:=(hbw2.cell (p:=⟨w1.heap.size,0,none⟩) hl2).trans c2;have k3:=(hbw2.frozen (p:=⟨w1.heap.size,0,none⟩) hl2).trans f2;have k4:=kw hl2 hbw2.size;have HTr:=WP (pR A2 (1+nr) iG _ w2 hown2.sl J)) | (go_simp;go_at_call 278;refine HTr.out.mono ?_;rintro e w3 ⟨rfl,rfl⟩))
    all_goals (go_wp2_with fail;go_meet)
    all_goals
     have hsl2:=hown2.sl.trimmed (B:=1000000000) J (a0R hu R);rw[a0V,←FC.out]at hsl2;have hfr:=hown2.fresh;have hq1:=(hown.lt rfl).2;have htl:=uP ([u]++j6.limbs 1000000000 R);rw[lm,xy.out]at htl;refine⟨rfl,A2,_,iG,WP ((HB1.out.below hbw2).far (by simp;omega) _),WP (by simpa using (HB2.out.below hbw2).fD 0 (.slice A2 (j6.U3 ([u]++j6.limbs 1000000000 R)).length iG)),hsl2.far (fun b o e=>by have:=hfr b o e;show b≠w1.heap.size;omega) _,WP (fun b o e=>by have:=hfr b o e;omega),?_,(hown.below hbw2).vU (HB2.out.below hbw2) O _ _,(hb.trans (hbw2.mono hb.size)).setCell (p:=⟨w1.heap.size,0,none⟩) hb1.size _⟩
     ·simp only[Zak]at htl;omega
   case rest =>
    obtain⟨rfl,A2,n2,iG,X1,X2,hs2,HA2,hn2,wE,zY⟩:=hcut;clear HB1 HB2 c1 c2 f2 hl2 ou HA hown hb AO AP xy hnr aC;obtain⟨m1,m2⟩:=EL X1.out;obtain⟨m3,m4⟩:=EL X2.out;have hl3:=X2.out.lt;have hl4:=X1.out.lt;obtain⟨hco,hfo,_,hlq⟩:=wE.cellAt (i:=j - 1) J;generalize q.getD (j - 1) 0=z at hco;have xz:=WP (uV 1000000000 J A2 A' n2 n' iG c' R' b wc hs2 (hy.below zY) J J);by_cases hge:R' < b
    ·have HO:Hid (dJ R' b=-1):=lK hge
     go_wp2_with (go_at_call 275;refine xz.out.mono ?_;rintro e w2 ⟨rfl,qq,rfl⟩;rw[HO.out])
     go_roundw
     case rel =>
      refine⟨j - 1,R',n2,iG,A2,q.set (j - 1) 0,J,by go_num,WP (X1.out.far I _),WP (X2.out.far (by simp;omega) _),(hs2.drew qq).far (p:=⟨w.heap.size+1,j - 1,none⟩) (fun b o e=>(HA2.out b o e).1) _,HA2,hge,(wE.drewN qq).setInt (d:=0) rfl rfl,xx.set J,?_,(below_drewN zY qq).setCell (p:=⟨w.heap.size+1,j - 1,none⟩) I _⟩;have h:=HST.out;rw[Nat.div_eq_of_lt hge,Nat.mod_eq_of_lt hge]at h;exact WP h
     case measure=>simp only[intOf];omega
    ·have hz:0≤dJ R' b:=by
      rcases Za5 b R' with h | h
      ·rw[lL h];omega
      ·obtain rfl:R'=b:=J;rw[qa];omega
     have hdg:R' / b < 1000000000:=by rw[FC.out];exact j6.Qq hu hR
     have Nt:Hid (∀qq,Calls prog 285 #[.int .i64 1000000000,.func (.func 286) #[] #[.pointer (some ⟨w.heap.size,0,none⟩),.pointer (some ⟨w1.heap.size,0,none⟩)]] (wc.drewN qq) (Vk .i64 (R' / b+1) (wc.drewN qq))) :=
      fun qq=>a2f w.heap.size w1.heap.size A' A2 n' n2 c' iG b R' (wc.drewN qq) m1 m3 ((hy.below zY).drew qq) (hs2.drew qq) J J hb0 hdg
     have FD:=WP (Nat.div_add_mod R' b);have iF:R' % b < b:=Nat.mod_lt _ hb0;generalize R' / b=d at hdg Nt HST FD;generalize R' % b=rr at HST FD iF
     go_upto_region 10 with (first | (go_at_call 275;refine xz.out.mono ?_;rintro e w2 ⟨rfl,qq,rfl⟩) | (go_at_call 285;refine (Nt.out qq).mono ?_;rintro e w3 ⟨rfl,hb3⟩))
     have zZ:Below wc.heap.size wc w3:=⟨hb3.os,hb3.tape,hb3.output,hb3.size,hb3.block⟩;have O7:Below w.heap.size w w3:=zY.trans (zZ.mono zY.size);have Y1:=WP (X1.out.below zZ);have Y2:=WP (X2.out.below zZ);have hown3:=wE.below zZ;have hs3:=hs2.below zZ;have hy3:=hy.below O7;obtain⟨y1,_⟩:=EL Y1.out;obtain⟨y3,y4⟩:=EL Y2.out;have iD:=Y2.out.lt;have b9k:=Y1.out.lt;have hbW:Below w3.heap.size w3 (w3.alloc (.cells #[.int .u32 (d:Int)] 267)).drew:=((Below.refl _ _).alloc (PP _) _).drew;have hone:=(Sl.one w3 .u32 267 d).ma;have HT1:=WP (pR (some ⟨w3.heap.size,0,none⟩) 1 1 [d] (w3.alloc (.cells #[.int .u32 (d:Int)] 267)).drew hone J);have htr:=hone.trimmed (B:=1000000000) J (j6.Small.cons hdg j6.Small.nil);rw[show j6.y8 1000000000 [d]=d by simp[j6.y8]]at htr
     have htl:=uP [d];have Nu:=Iz A' (some ⟨w3.heap.size,0,none⟩) n' _ c' 1 (j6.limbs 1000000000 b) (j6.limbs 1000000000 d) (w3.alloc (.cells #[.int .u32 (d:Int)] 267)).drew (hy3.below hbW) htr J (by simp only[Zak]at htl;omega) (j6.N7 J b) (j6.N7 J d);rw[j6.H8 J,j6.H8 J]at Nu;have HT2:=WP Nu;have hle:b * d≤R':=by have:=FD.out;omega
     have HSub:Hid (R' - b * d=rr):=by have:=FD.out;show _=_;omega
     clear Nu htl hone htr xz Nt m1 m2 m3 m4 hl3 hl4 hco hfo hlq
     go_cut [8,9] (fun s8 s9 wx=>s8=.int .i64 ((j:Int) - 1)∧s9=.int .u32 (d:Int)∧∃(A5:Option Addr) (n5 c5:Nat),Hid (D5 wx w.heap.size 276 #[.slice A' n' c'])∧Hid (D5 wx w1.heap.size 276 #[.slice A5 n5 c5])∧Sl wx .u32 A5 n5 c5 (j6.limbs 1000000000 rr)∧Hid (∀b o,A5=some ⟨b,o,none⟩→b≠w.heap.size+1∧b≠w1.heap.size)∧Own wx w.heap.size 267 .u32 (some ⟨w.heap.size+1,0,none⟩) n n q∧Below w.heap.size w wx)
     case first =>
      go_region_law
       (first | (go_simp;go_at_call 278;refine HT1.out.mono ?_;rintro e wt ⟨rfl,rfl⟩) | (go_simp;go_at_call 258;refine HT2.out.mono ?_;rintro e w4 ⟨A4,n4,c4,rfl,hs4,hb4,Nv⟩;have il:=hbW.trans (hb4.mono hbW.size);have z3:=(il.cell (p:=⟨w1.heap.size,0,none⟩) iD).trans y3;have Yl:=hs3.below il;have HMi:=WP (CJ A2 A4 n2 n4 iG c4 _ _ w4 Yl hs4 J (by rw[←Yl.len,←hs4.len];exact j6.aS J hle) (j6.N7 J _) (j6.N7 J _) (by rw[j6.H8 J,j6.H8 J];exact hle))) | (go_simp;go_at_call 266;refine HMi.out.mono ?_;rintro e w5 ⟨A5,n5,c5,rfl,hs5,hb5,AQ⟩;have kQ:=il.trans (hb5.mono il.size);have k1:=(kQ.cell (p:=⟨w1.heap.size,0,none⟩) iD).trans y3;have k3:=(kQ.frozen (p:=⟨w1.heap.size,0,none⟩) iD).trans y4;have k4:=kw iD kQ.size))
      all_goals (go_wp2_with fail;go_meet)
      all_goals
       rw[j6.H8 J,j6.H8 J,HSub.out]at hs5;have hq1:=(hown3.lt rfl).2;have hz4:=il.size;refine⟨rfl,rfl,A5,n5,c5,WP ((Y1.out.below kQ).far (by simp;omega) _),WP (by simpa using (Y2.out.below kQ).fD 0 (.slice A5 n5 c5)),hs5.far (p:=⟨w1.heap.size,0,none⟩) (fun b o e=>by have:=AQ b o e;show b≠w1.heap.size;omega) _,WP (fun b o e=>by have:=AQ b o e;omega),(hown3.below kQ).vU (Y2.out.below kQ) O _ _,(O7.trans (kQ.mono O7.size)).setCell (p:=⟨w1.heap.size,0,none⟩) hb1.size _⟩
     case rest =>
      obtain⟨rfl,rfl,A5,n5,c5,V1,V2,hs5,Zn,hown5,hb5⟩:=hcut;obtain⟨hco,hfo,_,hlq⟩:=hown5.cellAt (i:=j - 1) J;generalize q.getD (j - 1) 0=z at hco;go_wp2
      go_roundw
      case rel=>exact⟨j - 1,rr,n5,c5,A5,q.set (j - 1) d,J,by go_num,WP (V1.out.far I _),WP (V2.out.far (by simp;omega) _),hs5.far (p:=⟨w.heap.size+1,j - 1,none⟩) (fun b o e=>(Zn.out b o e).1) _,Zn,iF,hown5.setInt J rfl,xx.set hdg,HST,hb5.setCell (p:=⟨w.heap.size+1,j - 1,none⟩) I _⟩
      case measure=>simp only[intOf];omega
  ·have hjz:j=0:=J;subst hjz;have HQ:Hid (j6.y8 1000000000 q=a / b∧R=a % b):=by
    have h:=HV.out;rw[ZaZ,ZaZ,j6.H8 J]at h;show _∧_;rw[h];exact⟨by rw[Nat.add_comm,Nat.add_mul_div_right _ _ hb0,Nat.div_eq_of_lt hR,Zau],by rw[Nat.add_comm,Nat.add_mul_mod_self_right,Nat.mod_eq_of_lt hR]⟩
   have Aa:=hown.sl
   go_upto_region 12 with (fail)
   go_quiet ((go_at_call 278;exact Calls.quiet_of_same (a2O _ _ _ _ _ (Aa.drew _) J)))
   go_wp2;go_ret2;refine⟨_,_,_,_,_,_,rfl,?_,?_,below_drewN hb _⟩
   ·have:=Aa.trimmed (B:=1000000000) J xx;rw[HQ.out.1]at this;exact this.drew _
   ·rw[←HQ.out.2];exact ou.drew _
def fF(a b:Int):Int:=if a < b then -1 else if b < a then 1 else 0
theorem Tg{a b:Int}(h:a < b):fF a b=-1:=by simp[fF,h]
theorem Ti{a b:Int}(h:b < a):fF a b=1:=by simp[fF,h];omega
theorem Rc{a b:Int}(ha:¬a < 0)(hb:¬b < 0):dJ a.natAbs b.natAbs=fF a b:=by
 unfold dJ fF;by_cases h1:a < b
 ·rw[Ch J,Ch h1]
 ·rw[EQ J,EQ h1];by_cases h2:b < a
  ·rw[Ch J,Ch h2]
  ·rw[EQ J,EQ h2]
theorem Re{a b:Int}(ha:a < 0)(hb:b < 0):dJ b.natAbs a.natAbs=fF a b:=by
 unfold dJ fF;by_cases h1:a < b
 ·rw[Ch J,Ch h1]
 ·rw[EQ J,EQ h1];by_cases h2:b < a
  ·rw[Ch J,Ch h2]
  ·rw[EQ J,EQ h2]
def lV(v:Int)(w:World)(e:Ending)(w':World):Prop:=e=.returned (.int .i64 v)∧Below w.heap.size w w'
theorem a1o(a b:lw)(w:World)(ha:a.length≤2500000)(hb:b.length≤2500000) :
  Calls prog 262 #[.string ⟨a.toArray⟩,.string ⟨b.toArray⟩] w (lV (fF (j6.x9 a) (j6.x9 b)) w):=by
 have U2:=WP (gX a w ha);have S9:Hid (∀w',Calls prog 255 #[.string ⟨b.toArray⟩] w' (gZ (b.length+1) (j6.x9 b) w')):=fun w'=>gX b w' hb
 generalize j6.x9 a=x at U2;generalize j6.x9 b=y at S9;by_cases hx:x < 0 <;> by_cases hy:y < 0
 ·have HF:=WP (Re hx hy)
  go_enter func262,ntmps262
  go_wp2_with fail
  refine U2.out.mono ?_;rintro e w1 ⟨A1,n1,c1,rfl,hs1,hn1,hb1⟩;rw[Pi hx]
  go_wp2_with fail
  refine (S9.out _).mono ?_;rintro e w2 ⟨A2,n2,c2,rfl,hs2,hn2,hb2⟩;rw[Pi hy];have hbw2:Below w.heap.size w w2:=hb1.trans (hb2.mono hb1.size);have HC:Hid (∀o1 o2,Calls prog 275 #[.slice A2 n2 c2,.slice A1 n1 c1] ((w2.alloc o1).alloc o2) (qD y.natAbs x.natAbs ((w2.alloc o1).alloc o2))) :=
   fun o1 o2=>uV 1000000000 J A2 A1 n2 n1 c2 c1 _ _ _ ((hs2.alloc o1).alloc o2) (((hs1.below hb2).alloc o1).alloc o2) J J
  go_wp2_with (go_at_call 275;refine (HC.out _ _).mono ?_;rintro e w3 ⟨rfl,q,rfl⟩)
  go_ret;refine⟨?_,below_drewN ((hbw2.alloc hbw2.size _).alloc (by rw[World.size_alloc];have:=hbw2.size;omega) _) q⟩
  rw[←HF.out];rfl
 ·have HF:=WP (Tg (a:=x) (b:=y) J)
  go_enter func262,ntmps262
  go_wp2_with fail
  refine U2.out.mono ?_;rintro e w1 ⟨A1,n1,c1,rfl,hs1,hn1,hb1⟩;rw[Pi hx]
  go_wp2_with fail
  refine (S9.out _).mono ?_;rintro e w2 ⟨A2,n2,c2,rfl,hs2,hn2,hb2⟩;rw[WF J];have hbw2:Below w.heap.size w w2:=hb1.trans (hb2.mono hb1.size);go_wp2;go_ret;refine⟨?_,(hbw2.alloc hbw2.size _).alloc (by rw[World.size_alloc];have:=hbw2.size;omega) _⟩
  rw[HF.out];rfl
 ·have HF:=WP (Ti (a:=x) (b:=y) J)
  go_enter func262,ntmps262
  go_wp2_with fail
  refine U2.out.mono ?_;rintro e w1 ⟨A1,n1,c1,rfl,hs1,hn1,hb1⟩;rw[WF J]
  go_wp2_with fail
  refine (S9.out _).mono ?_;rintro e w2 ⟨A2,n2,c2,rfl,hs2,hn2,hb2⟩;rw[Pi hy];have hbw2:Below w.heap.size w w2:=hb1.trans (hb2.mono hb1.size);go_wp2;go_ret;refine⟨?_,(hbw2.alloc hbw2.size _).alloc (by rw[World.size_alloc];have:=hbw2.size;omega) _⟩
  rw[HF.out];rfl
 ·have HF:=WP (Rc hx hy)
  go_enter func262,ntmps262
  go_wp2_with fail
  refine U2.out.mono ?_;rintro e w1 ⟨A1,n1,c1,rfl,hs1,hn1,hb1⟩;rw[WF J]
  go_wp2_with fail
  refine (S9.out _).mono ?_;rintro e w2 ⟨A2,n2,c2,rfl,hs2,hn2,hb2⟩;rw[WF J];have hbw2:Below w.heap.size w w2:=hb1.trans (hb2.mono hb1.size);have HC:Hid (∀o1 o2,Calls prog 275 #[.slice A1 n1 c1,.slice A2 n2 c2] ((w2.alloc o1).alloc o2) (qD x.natAbs y.natAbs ((w2.alloc o1).alloc o2))) :=
   fun o1 o2=>uV 1000000000 J A1 A2 n1 n2 c1 c2 _ _ _ (((hs1.below hb2).alloc o1).alloc o2) ((hs2.alloc o1).alloc o2) J J
  go_wp2_with (go_at_call 275;refine (HC.out _ _).mono ?_;rintro e w3 ⟨rfl,q,rfl⟩)
  go_ret;refine⟨?_,below_drewN ((hbw2.alloc hbw2.size _).alloc (by rw[World.size_alloc];have:=hbw2.size;omega) _) q⟩
  rw[←HF.out];rfl
def a3R(x y:Int)(w:World)(e:Ending)(w':World):Prop:=e=.returned (.tuple #[.int .i64 x,.int .i64 y,.bool true])∧Below w.heap.size w w'
def a6D(w:World)(e:Ending)(w':World):Prop:=e=.returned (.tuple #[.int .i64 0,.int .i64 0,.bool false])∧w=w'
theorem Qv(a b:lw)(m:Int)(w:World)(hm:m≤18)(ha:(a.length:Int)≤m)(hb:(b.length:Int)≤m)(hva:j6.O5 a=true)(hvb:j6.O5 b=true) :
  Calls prog 252 #[.string ⟨a.toArray⟩,.string ⟨b.toArray⟩,.int .i64 m] w (a3R (j6.x9 a) (j6.x9 b) w):=by
 have gF:Hid (∀w',Calls prog 273 #[.string ⟨a.toArray⟩] w' fun e w''=>e=.returned (.bool true)∧w'=w''):=fun w'=>by
  have:=lG a w' J;rwa [hva]at this
 have jO:Hid (∀w',Calls prog 273 #[.string ⟨b.toArray⟩] w' fun e w''=>e=.returned (.bool true)∧w'=w''):=fun w'=>by
  have:=lG b w' J;rwa [hvb]at this
 have U2:=WP (Ph a w hva J);have S9:Hid (∀w',Calls prog 274 #[.string ⟨b.toArray⟩,.int .i64 10,.int .i64 64] w' fun e w''=>e=.returned (.tuple #[.int .i64 (j6.x9 b),.nilIface])∧Below w'.heap.size w' w''):=fun w'=>Ph b w' hvb J
 clear hva hvb
 go_enter func252,ntmps252
 go_wp2_with fail
 refine (gF.out _).mono ?_;rintro e w' ⟨rfl,rfl⟩
 go_wp2_with fail
 refine (jO.out _).mono ?_;rintro e w' ⟨rfl,rfl⟩
 go_wp2_with fail
 refine U2.out.mono ?_;rintro e w1 ⟨rfl,hb1⟩
 go_wp2_with fail
 refine (S9.out _).mono ?_;rintro e w2 ⟨rfl,hb2⟩;go_wp2
 go_ret3
 exact⟨rfl,hb1.trans (hb2.mono hb1.size)⟩
theorem Rf(a b:lw)(m:Int)(w:World)(hla:a.length≤2500000)(hlb:b.length≤2500000)(h:¬((a.length:Int)≤m∧(b.length:Int)≤m∧j6.O5 a=true∧j6.O5 b=true)) :
  Calls prog 252 #[.string ⟨a.toArray⟩,.string ⟨b.toArray⟩,.int .i64 m] w (a6D w):=by
 by_cases h1:(a.length:Int)≤m
 ·by_cases h2:(b.length:Int)≤m
  ·cases h3:j6.O5 a with
   |true =>
    have h4:j6.O5 b=false:=by
     cases h4:j6.O5 b with
     |false=>rfl
     |true=>exact absurd ⟨h1,h2,h3,h4⟩ h
    have gF:Hid (∀w',Calls prog 273 #[.string ⟨a.toArray⟩] w' fun e w''=>e=.returned (.bool true)∧w'=w''):=fun w'=>by
     have:=lG a w' J;rwa [h3]at this
    have jO:Hid (∀w',Calls prog 273 #[.string ⟨b.toArray⟩] w' fun e w''=>e=.returned (.bool false)∧w'=w''):=fun w'=>by
     have:=lG b w' J;rwa [h4]at this
    clear h h3 h4
    go_enter func252,ntmps252
    go_wp2_with fail
    refine (gF.out _).mono ?_;rintro e w' ⟨rfl,rfl⟩
    go_wp2_with fail
    refine (jO.out _).mono ?_;rintro e w' ⟨rfl,rfl⟩;go_wp2
    go_ret3
    exact⟨rfl,rfl⟩
   |false =>
    have gF:Hid (∀w',Calls prog 273 #[.string ⟨a.toArray⟩] w' fun e w''=>e=.returned (.bool false)∧w'=w''):=fun w'=>by
     have:=lG a w' J;rwa [h3]at this
    clear h h3
    go_enter func252,ntmps252
    go_wp2_with fail
    refine (gF.out _).mono ?_;rintro e w' ⟨rfl,rfl⟩;go_wp2
    go_ret3
    exact⟨rfl,rfl⟩
  ·clear h;have d1:decide (m < (b.length:Int))=true:=by simp;omega
   go_enter func252,ntmps252
   go_wp2
   go_ret3
   exact⟨rfl,rfl⟩
 ·clear h;have d1:decide (m < (a.length:Int))=true:=by simp;omega
  go_enter func252,ntmps252
  go_wp2
  go_ret3
  exact⟨rfl,rfl⟩
def lM(v:Value)(w:World)(e:Ending)(w':World):Prop:=e=.returned v∧w=w'
theorem Kr{D:ByteArray}{l:lw}(h:D.data.toList=l):D=⟨l.toArray⟩:=by
 subst h;rw[Lib.mk_data]
theorem rH{v:Int}(h:v < 0):Lib.itoa v=45::Lib.decDigits v.natAbs:=by
 obtain⟨u,rfl⟩:∃u:Nat,v=-(u:Int):=⟨v.natAbs,J⟩;rw[j6.xY J];simp
theorem uW{v:Int}(h:0≤v):Lib.itoa v=Lib.decDigits v.natAbs:=by
 obtain⟨u,rfl⟩:∃u:Nat,v=(u:Int):=⟨v.natAbs,J⟩;rw[j6.nu];simp
theorem Pm{v:Int}(h:v≠0):Lib.itoa v≠[48]:=fun e=>h (j6.yu (e.trans j6.gW.symm))
theorem CE{D:ByteArray}{c:UInt8}{r:lw}(h:D.data.toList=c::r):∃hp:0 < D.size,D[0]=c:=by
 have hp:0 < D.size:=by rw[Zad,h];simp
 obtain⟨hl,e⟩:=byte_at h 0 hp;exact⟨hp,by rw[e];rfl⟩
theorem Io(l:lw)(w:World)(hl:l.length≤2500000) :
    Calls prog 263 #[.string ⟨l.toArray⟩] w (lM (.string ⟨(Lib.itoa (-(j6.x9 l))).toArray⟩) w):=by
  have HD:=WP (rG l w J);obtain⟨D,hD⟩:∃D:ByteArray,D=⟨(norm l).toArray⟩:=⟨_,rfl⟩;rw[←hD]at HD;have HT:Hid (D.data.toList=Lib.itoa (j6.x9 l)):=by rw[hD];exact norm_eq l
  have hsz:D.size≤2500001:=by rw[hD,Zad];have:=lF l;show (norm l).length≤_;omega
  clear hD;generalize j6.x9 l=v at HT;by_cases h0:v=0
  · subst h0
    have hE:D.toList=[48]:=by rw[ZaO,HT.out,j6.gW]
    have hE2:(D.toList == [48])=true:=by rw[hE];rfl
    have HR:Hid (D=⟨(Lib.itoa (-0)).toArray⟩):=Kr HT.out;clear hE
    go_enter func263,ntmps263
    go_wp2_with fail
    refine HD.out.mono ?_;rintro e w' ⟨rfl,rfl⟩;go_wp2;go_ret;exact⟨by rw[←HR.out];rfl,rfl⟩
  · have hE2:(D.toList == [48])=false:=by rw[ZaO,HT.out];simpa using Pm h0
    by_cases hn:v < 0
    · obtain⟨hp,e0⟩:=CE (HT.out.trans (rH hn))
      have hb:((D[0].toNat:Int) == 45)=true:=by rw[e0];rfl
      have HR:Hid (D.extract 1 D.size=⟨(Lib.itoa (-v)).toArray⟩):=by
        apply Kr;rw[Lib.extract_data,HT.out,rH hn,List.drop_succ_cons,ZaZ,uW J,Za2]
        · congr 1;omega
        · rw[Zad,HT.out,rH hn];simp
      clear e0
      go_enter func263,ntmps263
      go_wp2_with fail
      refine HD.out.mono ?_;rintro e w' ⟨rfl,rfl⟩;go_wp2;go_ret;exact⟨by rw[←HR.out];rfl,rfl⟩
    · obtain⟨c,r,hcr,_⟩:=j6.uS (u:=v.natAbs) J
      have hD2:D.data.toList=c::r:=by rw[HT.out,uW J,hcr]
      obtain⟨hp,e0⟩:=CE hD2;have h45:c≠45:=j6.xZ (r:=r) (by rw[←hcr];exact j6.rF _);have hb:((D[0].toNat:Int) == 45)=false:=by
        rw[e0,IR];intro e;exact h45 (UInt8.toNat_inj.1 (by
                                         have:c.toNat=45:=J;simpa using this))
      have HR:Hid ((⟨#[45]⟩:ByteArray)++D=⟨(Lib.itoa (-v)).toArray⟩):=by
        apply Kr;rw[rH J,Int.natAbs_neg,←uW (v:=v) J,←HT.out];simp
      clear e0 hD2 h45 hcr
      go_enter func263,ntmps263
      go_wp2_with fail
      refine HD.out.mono ?_;rintro e w' ⟨rfl,rfl⟩;go_wp2;go_ret;exact⟨by rw[←HR.out];rfl,rfl⟩
theorem xU(l:lw)(w:World)(hl:l.length≤2500000) :
  Calls prog 259 #[.string ⟨l.toArray⟩] w (lM (.int .i64 ((j6.mag (norm l)).length:Nat)) w):=by
 have HD:=WP (rG l w J);have hnl:=lF l;have iF:=j6.jA (norm l)
 go_enter func259,ntmps259
 go_wp2_with fail
 refine HD.out.mono ?_;rintro e w' ⟨rfl,rfl⟩
 go_wp2_with fail
 refine (Hm (norm l) _).mono ?_;rintro e w' ⟨rfl,rfl⟩;go_wp2;go_ret;exact⟨rfl,rfl⟩
theorem a1K(n:Int)(w:World)(ht:R9 w)(h0:-9223372036854775808≤n)(h1:n≤9223372036854775807) :
  Calls prog 229 #[.int .i64 n] w (bD (Lib.itoa n) w):=by
 have HI:=WP (vz n w ht h0 h1);clear h0 h1
 go_enter func229,ntmps229
 go_wp2_with fail
 refine HI.out.mono ?_;rintro e w' ⟨rfl,hb⟩;go_wp2;go_ret;exact⟨rfl,hb⟩
end Go.Proofs.YtbpmpdadppamgaaGreatDoor
