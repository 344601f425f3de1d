/- Leaf contracts on plain trees; what the primitives compute. -/
import Derived.Test.YthhknjlmjefklaaGreatDoorMM
import Derived.Test.YthhknjlmjefklaaGreatDoorMD
namespace Go.Proofs.YthhknjlmjefklaaGreatDoor
open Go.RowKit
abbrev nilT:Tr:=.sym lispB nilB
abbrev truT (b:Bool):Tr:=if b then .sym lispB [116] else nilT
theorem p_oNil7:Puk 48 [] (trA nilT) :=
 ⟨fnm Tryz.func48 rfl (by kernel_rfl),fun ok w vs ht hv=>by
  obtain rfl:vs=[]:=hv
  exact (oNil_any w).mono fun _ _ h=>RetLeaf.pure (r:=nilO) rfl h⟩
theorem p_rNil7:Puk 28 [] (trA nilT) :=
 ⟨fnm Tryz.func28 rfl (by kernel_rfl),fun ok w vs ht hv=>by
  obtain rfl:vs=[]:=hv
  exact (rNil_any w).mono fun _ _ h=>RetLeaf.pure (r:=nilO) rfl h⟩
theorem p_rT7:Puk 64 [] (trA (.sym lispB [116])) :=
 ⟨fnm Tryz.func64 rfl (by kernel_rfl),fun ok w vs ht hv=>by
  obtain rfl:vs=[]:=hv
  exact (rT_any w).mono fun _ _ h=>RetLeaf.pure (r:=tO) rfl h⟩
theorem p_rSym7 (p s:List UInt8):Puk 59 [syA p s] (trA (.sym p s)) :=
 ⟨fnm Tryz.func59 rfl (by kernel_rfl),fun ok w vs ht hv=>by
  obtain ⟨u,us,rfl,h1,rfl⟩:=hv
  rw [h1.sy]
  exact (rSymbol_any w p s).mono fun _ _ h=>RetLeaf.pure (r:=symO p s) rfl h⟩
theorem p_rRatI {q:Int} {a:List UInt8} (ha:a.length≤1100000) (hq:Dec.dval a=q):Puk 35 [stA a,stA [49]] (trA (.num (q:Rat))):=by
 have h:=p_rRat (b:=[49]) ha (by decide)
 have e:Rat.divInt (Dec.dval a) (Dec.dval [49])=(q:Rat):=by
  rw [hq,show Dec.dval [49]=1 by decide +kernel]
  exact divInt_one' q
 rwa [e] at h
theorem p_rIsI (t:Tr):Puk 90 [trA t] (boA (decide (t.ob.kind=1∧t.ob.den=[49]))) :=
 pk_ov (fnm Tryz.func90 rfl (by kernel_rfl)) fun ok A n c w _ _=>rIsInteger_any t.ob A n c w
theorem p_oIsNil7 (t:Tr):Puk 119 [trA t] (boA (decide (t=nilT))):=by
 have h:Puk 119 [trA t] (boA (decide (t.ob.kind=2∧t.ob.sp=lispB∧t.ob.sn=nilB))):=pk_ov (fnm Tryz.func119 rfl (by kernel_rfl)) fun ok A n c w _ _=>oIsNil_any t.ob A n c w
 refine h.b ?_
 cases t with
 | sym p s =>
  by_cases hh:p=lispB∧s=nilB
  ·obtain ⟨rfl,rfl⟩:=hh
   rw [decide_eq_true ⟨rfl,rfl,rfl⟩,decide_eq_true rfl]
  ·rw [decide_eq_false (fun h=>hh ⟨h.2.1,h.2.2⟩),decide_eq_false (fun h=>by cases h;exact hh ⟨rfl,rfl⟩)]
 | num q=>rw [decide_eq_false (fun h=>absurd (show (1:Int)=2 from h.1) (by decide)),decide_eq_false (fun h=>by cases h)]
 | txt q=>rw [decide_eq_false (fun h=>absurd (show (3:Int)=2 from h.1) (by decide)),decide_eq_false (fun h=>by cases h)]
 | cons a d=>rw [decide_eq_false (fun h=>absurd (show (4:Int)=2 from h.1) (by decide)),decide_eq_false (fun h=>by cases h)]
theorem p_rIsNil7 {k:Nat} {t:Tr} (h:t.Ok k) (hk:k≤100000):Puk 16 [trA t] (boA (decide (t=nilT))) :=
 ⟨fnm Tryz.func16 rfl (by kernel_rfl),fun ok w vs ht hv=>by
  obtain ⟨A,n,c,rfl,hr⟩:=hv.one_obj
  exact (rIsNil_any ok t.ob (h.wf hk) A n c w hr).mono fun e w' h=>(RetEq.iff (Tr.ob_iff (a:=t) (b:=nilT)) h).pure⟩
def smV (l:List UInt8):Int×Bool:=if (Dec.mag (norm l)).length≤9 then (Dec.dval l,true) else (0,false)
theorem p_rSmall {l:List UInt8} (hl:l.length≤2500000):Puk 91 [stA l] (.tup [inA (smV l).1,boA (smV l).2]) :=
 ⟨fnm Tryz.func91 rfl (by kernel_rfl),fun ok w vs ht hv=>by
  obtain rfl:=hv.one_val
  unfold smV
  split
  ·rename_i h
   refine (refSmall_yes l w hl h).mono ?_
   rintro e w' ⟨rfl,h2⟩
   exact ⟨_,rfl,h2,_,rfl,_,_,rfl,.val _,_,_,rfl,.val _,rfl⟩
  ·rename_i h
   refine (refSmall_no l w hl (by omega)).mono ?_
   rintro e w' ⟨rfl,h2⟩
   exact ⟨_,rfl,h2,_,rfl,_,_,rfl,.val _,_,_,rfl,.val _,rfl⟩⟩
theorem p_rDiv {a b:List UInt8} (ha:a.length≤2400000) (hb:b.length≤2400000):Puk 150 [stA a,stA b] (.tup [stA (Lib.itoa (qd (Dec.dval a) (Dec.dval b))),stA (Lib.itoa (rm (Dec.dval a) (Dec.dval b)))]) :=
 ⟨fnm Tryz.func150 rfl (by kernel_rfl),fun ok w vs ht hv=>by
  obtain ⟨u,us,rfl,h1,h2⟩:=hv
  obtain rfl:=RL.one_val h2
  rw [Rd.val_eq h1]
  refine (refDiv_any a b w ha hb).mono ?_
  rintro e w' ⟨rfl,h2⟩
  exact ⟨_,rfl,h2,_,rfl,_,_,rfl,.val _,_,_,rfl,.val _,rfl⟩⟩
theorem p_rSyV {p s:List UInt8} (hp:p.length≤9223372036854775807) (hs:s.length≤9223372036854775807):Puk 155 [syA p s] (boA (symOk ⟨p,s⟩)) :=
 ⟨fnm Tryz.func155 rfl (by kernel_rfl),fun ok w vs ht hv=>by
  obtain ⟨u,us,rfl,h1,rfl⟩:=hv
  rw [h1.sy]
  exact (ref4Valid_any ⟨p,s⟩ w hp hs).mono fun _ _=>RetBel.pure⟩
namespace Tr
abbrev tx (t:Tr):List UInt8:=t.ob.text
def isT:Tr→Bool
 | .txt _=>true
 | _=>false
def isY:Tr→Bool
 | .sym _ _=>true
 | _=>false
def isN:Tr→Bool
 | .num _=>true
 | _=>false
def isI:Tr→Bool
 | .num q=>decide (q.den=1)
 | _=>false
theorem isI_ob (t:Tr):decide (t.ob.kind=1∧t.ob.den=[49])=t.isI:=by
 cases t with
 | num q =>
  have h:((ratO q).den=[49])↔q.den=1:=by
   show Lib.itoa (q.den:Int)=[49]↔_
   have:=itoa_eq_one (v:=(q.den:Int))
   constructor
   ·intro h
    rw [h] at this
    have h2:decide ((q.den:Int)=1)=true:=by rw [← this];rfl
    have:=of_decide_eq_true h2
    omega
   ·intro h
    rw [h]
    exact itoa_one
  by_cases hq:q.den=1
  ·show decide ((1:Int)=1∧(ratO q).den=[49])=decide (q.den=1)
   rw [decide_eq_true hq,decide_eq_true ⟨rfl,h.2 hq⟩]
  ·show decide ((1:Int)=1∧(ratO q).den=[49])=decide (q.den=1)
   rw [decide_eq_false hq,decide_eq_false fun hh=>hq (h.1 hh.2)]
 | txt s=>exact decide_eq_false fun h=>absurd (show (3:Int)=1 from h.1) (by decide)
 | sym p s=>exact decide_eq_false fun h=>absurd (show (2:Int)=1 from h.1) (by decide)
 | cons a d=>exact decide_eq_false fun h=>absurd (show (4:Int)=1 from h.1) (by decide)
def ixV (x i:Tr):Option Int:=if x.isT && i.isI && (smV i.ob.num).2 && decide (0≤(smV i.ob.num).1) && decide ((smV i.ob.num).1 < x.tx.length) then some (smV i.ob.num).1 else none
def octV (x:Tr):Option Int:=if x.isI && (smV x.ob.num).2 && decide (0≤(smV x.ob.num).1) && decide ((smV x.ob.num).1≤255) then some (smV x.ob.num).1 else none
def carT:Tr→Tr
 | .cons a _=>a
 | _=>nilT
def cdrT:Tr→Tr
 | .cons _ d=>d
 | _=>nilT
def ap:Nat→Tr→Tr→Tr→Tr
 | 0,x,y,z=>if x=nilT then z else y
 | 1,x,y,_=>truT (decide (x=y))
 | 2,x,y,_=>.cons x y
 | 3,x,_,_=>x.carT
 | 4,x,_,_=>x.cdrT
 | 5,x,_,_=>truT x.isC
 | 6,x,_,_=>truT x.isY
 | 7,x,_,_=>truT x.isT
 | 8,x,_,_=>truT x.isN
 | 9,x,_,_=>truT x.isI
 | 10,x,y,_=>.num (x.val+y.val)
 | 11,x,y,_=>.num (x.val * y.val)
 | 12,x,_,_=>.num (-x.val)
 | 13,x,_,_=>.num x.val⁻¹
 | 14,x,y,_=>truT (decide (x.val < y.val))
 | 15,x,_,_=>.num (x.val.num:Rat)
 | 16,x,_,_=>.num ((x.val.den:Int):Rat)
 | 17,x,_,_=>.num ((qd x.val.num x.val.den:Int):Rat)
 | 18,x,_,_=>.txt x.ob.sn
 | 19,x,_,_=>.txt x.ob.sp
 | 20,x,y,_=>if x.isT && y.isT && symOk ⟨y.tx,x.tx⟩ then .sym y.tx x.tx else nilT
 | 21,x,y,_=>.txt (x.tx++y.tx)
 | 22,x,_,_=>.num ((x.tx.length:Int):Rat)
 | 23,x,y,_=>match ixV x y with
  | some n=>.num ((x.tx.getD n.toNat 0).toNat:Int)
  | none=>nilT
 | 24,x,_,_=>match octV x with
  | some n=>.txt [UInt8.ofNat n.toNat]
  | none=>.txt []
 | _,_,_,_=>nilT
def kept' (t:Tr):Option Tr:=if t.valid then some t else none
def apO (i:Nat) (x y z:Tr):Option Tr:=if i=2∨i=10∨i=11∨i=21 then kept' (ap i x y z) else some (ap i x y z)
end Tr
theorem kept_t {t:Tr} (h:t.valid=true):Tr.kept' t=some t:=by unfold Tr.kept';rw [if_pos h]
theorem kept_f {t:Tr} (h:t.valid=false):Tr.kept' t=none:=by unfold Tr.kept';rw [if_neg (by rw [h];simp)]
theorem Tr.Ok.num_len {k:Nat} {t:Tr} (h:t.Ok k) (hk:k≤100000):t.ob.num.length≤100001:=by
 cases t with
 | num q=>exact Nat.le_trans (Rb.nlen h) (by omega)
 | _=>exact Nat.zero_le _
theorem isC_k (t:Tr):decide (t.ob.kind=4)=t.isC:=by cases t <;> rfl
theorem isY_k (t:Tr):decide (t.ob.kind=2)=t.isY:=by cases t <;> rfl
theorem isT_k (t:Tr):decide (t.ob.kind=3)=t.isT:=by cases t <;> rfl
theorem isN_k (t:Tr):decide (t.ob.kind=1)=t.isN:=by cases t <;> rfl
theorem bin_ine7 {P:Program} {t:TypeId} {x y:Operand} {k:IntKind} {a b:Int} {r:Bool} (h:decide (a=b)=!r):BinIs P .neq t x y (.int k a) (.int k b) (.bool r):=by
 refine sbin_is ?_
 simp only [sbin,decide_true]
 rw [show (a != b)=!decide (a=b) by rw [bne,eqD a b],h,Bool.not_not]
abbrev pinO (o:Ob):AV:=.pin ((encL o).map .dt)
abbrev zO:Ob:=⟨0,[],[],[],[],[],[]⟩
abbrev resT (o:Option Tr):AV:=match o with
 | some t=>.tup [trA t,inA 0]
 | none=>.tup [obA zO,inA 2]
theorem Puk.r {f:FuncId} {args:List AV} {a b:Option Tr} (h:Puk f args (resT a)) (e:a=b):Puk f args (resT b):=e ▸ h
end Go.Proofs.YthhknjlmjefklaaGreatDoor
namespace Go.Proofs.YthhknjlmjefklaaGreatDoor
open Go.RowKit
theorem p_rTru (b:Bool):Puk 147 [boA b] (trA (truT b)):=by
 cases b with
 | true=>exact pwalk (an:=[.av (trA (.sym lispB [116]))]) (ls:=[]) (ps:=[Puk 64 [] (trA (Tr.sym lispB [116]))]) Tryz.func147 (by kernel_rfl) (by kernel_rfl) ⟨p_rT7,trivial⟩
 | false=>exact pwalk (an:=[.av (trA nilT)]) (ls:=[]) (ps:=[Puk 28 [] (obA nilT.ob)]) Tryz.func147 (by kernel_rfl) (by kernel_rfl) ⟨p_rNil7,trivial⟩
theorem p_oHalf0 (t:Tr):Puk 212 [trA t,inA 0] (trA t.carT):=by
 cases t with
 | num q=>exact pwalk (an:=[.no,.av (trA nilT)]) (ls:=[]) (ps:=[Puk 48 [] (obA nilT.ob)]) Tryz.func212 (by kernel_rfl) (by kernel_rfl) ⟨p_oNil7,trivial⟩
 | txt s=>exact pwalk (an:=[.no,.av (trA nilT)]) (ls:=[]) (ps:=[Puk 48 [] (obA nilT.ob)]) Tryz.func212 (by kernel_rfl) (by kernel_rfl) ⟨p_oNil7,trivial⟩
 | sym p s=>exact pwalk (an:=[.no,.av (trA nilT)]) (ls:=[]) (ps:=[Puk 48 [] (obA nilT.ob)]) Tryz.func212 (by kernel_rfl) (by kernel_rfl) ⟨p_oNil7,trivial⟩
 | cons a d=>exact pwalk (an:=[.no,.no,.no,.av (pinO a.ob)]) (ls:=[]) (ps:=[IxAt (List.map Ob.enc (a.cons d).ob.pair) 0 7 (encL a.ob)]) Tryz.func212 (by kernel_rfl) (by kernel_rfl) ⟨ix_obj (l:=[a.ob,d.ob]) (i:=0) rfl,trivial⟩
theorem p_rStr (t:Tr):Puk 151 [trA t] (stA t.tx):=by
 cases t with
 | num q=>exact pwalk (an:=[]) (ls:=[]) (ps:=[]) Tryz.func151 (by kernel_rfl) (by kernel_rfl) trivial
 | txt s=>exact pwalk (an:=[]) (ls:=[]) (ps:=[]) Tryz.func151 (by kernel_rfl) (by kernel_rfl) trivial
 | sym p s=>exact pwalk (an:=[]) (ls:=[]) (ps:=[]) Tryz.func151 (by kernel_rfl) (by kernel_rfl) trivial
 | cons a d=>exact pwalk (an:=[]) (ls:=[]) (ps:=[]) Tryz.func151 (by kernel_rfl) (by kernel_rfl) trivial
def ixN7 (x i:Tr):Int:=if x.isT && i.isI then (smV i.ob.num).1 else 0
theorem ixV_some {x i:Tr} {n:Int} (h:x.ixV i=some n):ixN7 x i=n∧x.isT=true∧i.isI=true∧0≤n∧n < x.tx.length:=by
 unfold Tr.ixV at h
 split at h
 ·rename_i hc
  simp only [Bool.and_eq_true,decide_eq_true_eq] at hc
  cases h
  unfold ixN7
  rw [if_pos (by rw [hc.1.1.1.1,hc.1.1.1.2];rfl)]
  exact ⟨rfl,hc.1.1.1.1,hc.1.1.1.2,hc.1.2,hc.2⟩
 ·cases h
theorem ixV_b (x i:Tr):(x.ixV i).isSome=(x.isT && i.isI && (smV i.ob.num).2 && decide (0≤(smV i.ob.num).1) && decide ((smV i.ob.num).1 < x.tx.length)):=by
 unfold Tr.ixV
 split
 ·rename_i h;rw [h];rfl
 ·rename_i h;simp only [Bool.not_eq_true] at h;rw [h];rfl
theorem octV_b (x:Tr):(x.octV).isSome=(x.isI && (smV x.ob.num).2 && decide (0≤(smV x.ob.num).1) && decide ((smV x.ob.num).1≤255)):=by
 unfold Tr.octV
 split
 ·rename_i h;rw [h];rfl
 ·rename_i h;simp only [Bool.not_eq_true] at h;rw [h];rfl
def ixR7 (x i:Tr):Int:=match x.ixV i with
 | some n=>n
 | none=>0
theorem ixR_eq (x i:Tr):ixR7 x i=if x.isT && i.isI && (smV i.ob.num).2 && decide (0≤(smV i.ob.num).1) && decide ((smV i.ob.num).1 < x.tx.length) then (smV i.ob.num).1 else 0:=by
 unfold ixR7 Tr.ixV
 split <;> rename_i h <;> split at h <;> first | (cases h;rename_i hc;rw [if_pos hc]) | (cases h;done) | (rename_i hc;rw [if_neg hc])
theorem p_rIx {k:Nat} (x:Tr) {i:Tr} (hi:i.Ok k) (hk:k≤100000):Puk 51 [trA x,trA i] (.tup [inA (ixR7 x i),boA (x.ixV i).isSome]):=by
 rw [ixR_eq,ixV_b]
 cases x with
 | num q=>exact pwalk (an:=[]) (ls:=[]) (ps:=[]) Tryz.func51 (by kernel_rfl) (by kernel_rfl) trivial
 | sym p s=>exact pwalk (an:=[]) (ls:=[]) (ps:=[]) Tryz.func51 (by kernel_rfl) (by kernel_rfl) trivial
 | cons a d=>exact pwalk (an:=[]) (ls:=[]) (ps:=[]) Tryz.func51 (by kernel_rfl) (by kernel_rfl) trivial
 | txt s =>
  cases hI:i.isI with
  | false=>exact pwalk (an:=[.no,yF]) (ls:=[]) (ps:=[Puk 90 [(obA i.ob)] (boA false)]) Tryz.func51 (by kernel_rfl) (by kernel_rfl) ⟨(p_rIsI i).b ((Tr.isI_ob i).trans hI),trivial⟩
  | true =>
   have hs:=p_rSmall (l:=i.ob.num) (Nat.le_trans (hi.num_len hk) (by decide))
   have ht:(Tr.txt s).tx=s:=rfl
   rw [ht]
   generalize hp:smV i.ob.num=p at hs ⊢
   obtain ⟨n,b⟩:=p
   cases b with
   | false=>exact pwalk (an:=[.no,yT,.av (.tup [inA n,boA false])]) (ls:=[]) (ps:=[Puk 90 [(obA i.ob)] (boA true),Puk 91 [(stA i.ob.num)] (.tup [(inA n),(boA false)])]) Tryz.func51 (by kernel_rfl) (by kernel_rfl) ⟨(p_rIsI i).b ((Tr.isI_ob i).trans hI),hs,trivial⟩
   | true =>
    by_cases h0:0≤n
    ·rw [decide_eq_true h0]
     by_cases h1:n < s.length
     ·rw [decide_eq_true h1]
      exact pwalk (an:=[.no,yT,.av (.tup [inA n,boA true]),yF,.no,yF]) (ls:=[]) (ps:=[Puk 90 [(obA i.ob)] (boA true),Puk 91 [(stA i.ob.num)] (.tup [(inA n),(boA true)]),Bn .lss 3 (.tmp 25) (.const (vi 0)) (vi n) (vi 0) bF,Bn .geq 3 (.tmp 29) (.tmp 32) (vi n) (vi (↑{ data:=(Tr.txt s).ob.text.toArray:ByteArray }.data.toList.length)) bF]) Tryz.func51 (by kernel_rfl) (by kernel_rfl) ⟨(p_rIsI i).b ((Tr.isI_ob i).trans hI),hs,bin_ilt (decide_eq_false (by omega)),bin_ige (b:=(s.length:Int)) (decide_eq_false (by omega)),trivial⟩
     ·rw [decide_eq_false h1]
      exact pwalk (an:=[.no,yT,.av (.tup [inA n,boA true]),yF,.no,yT]) (ls:=[]) (ps:=[Puk 90 [(obA i.ob)] (boA true),Puk 91 [(stA i.ob.num)] (.tup [(inA n),(boA true)]),Bn .lss 3 (.tmp 25) (.const (vi 0)) (vi n) (vi 0) bF,Bn .geq 3 (.tmp 29) (.tmp 32) (vi n) (vi (↑{ data:=(Tr.txt s).ob.text.toArray:ByteArray }.data.toList.length)) bT]) Tryz.func51 (by kernel_rfl) (by kernel_rfl) ⟨(p_rIsI i).b ((Tr.isI_ob i).trans hI),hs,bin_ilt (decide_eq_false (by omega)),bin_ige (b:=(s.length:Int)) (decide_eq_true (by omega)),trivial⟩
    ·rw [decide_eq_false h0]
     exact pwalk (an:=[.no,yT,.av (.tup [inA n,boA true]),yT]) (ls:=[]) (ps:=[Puk 90 [(obA i.ob)] (boA true),Puk 91 [(stA i.ob.num)] (.tup [(inA n),(boA true)]),Bn .lss 3 (.tmp 25) (.const (vi 0)) (vi n) (vi 0) bT]) Tryz.func51 (by kernel_rfl) (by kernel_rfl) ⟨(p_rIsI i).b ((Tr.isI_ob i).trans hI),hs,bin_ilt (decide_eq_true (by omega)),trivial⟩
def ocR (x:Tr):Int:=if x.isI && (smV x.ob.num).2 && decide (0≤(smV x.ob.num).1) && decide ((smV x.ob.num).1≤255) then IntKind.u8.wrap (smV x.ob.num).1 else 0
theorem p_rOct {k:Nat} {x:Tr} (hx:x.Ok k) (hk:k≤100000):Puk 52 [trA x] (.tup [.dt (.val (.int .u8 (ocR x))),boA (x.octV).isSome]):=by
 rw [octV_b]
 unfold ocR
 have hs:=p_rSmall (l:=x.ob.num) (Nat.le_trans (hx.num_len hk) (by decide))
 generalize hp:smV x.ob.num=p at hs ⊢
 obtain ⟨n,b⟩:=p
 cases hI:x.isI with
 | false=>exact pwalk (an:=[yF]) (ls:=[]) (ps:=[Puk 90 [(obA x.ob)] (boA false)]) Tryz.func52 (by kernel_rfl) (by kernel_rfl) ⟨(p_rIsI x).b ((Tr.isI_ob x).trans hI),trivial⟩
 | true =>
  cases b with
  | false=>exact pwalk (an:=[yT,.av (.tup [inA n,boA false])]) (ls:=[]) (ps:=[Puk 90 [(obA x.ob)] (boA true),Puk 91 [(stA x.ob.num)] (.tup [(inA n),(boA false)])]) Tryz.func52 (by kernel_rfl) (by kernel_rfl) ⟨(p_rIsI x).b ((Tr.isI_ob x).trans hI),hs,trivial⟩
  | true =>
   by_cases h0:0≤n
   ·rw [decide_eq_true h0]
    by_cases h1:n≤255
    ·rw [decide_eq_true h1]
     exact pwalk (an:=[yT,.av (.tup [inA n,boA true]),yF,yF]) (ls:=[]) (ps:=[Puk 90 [(obA x.ob)] (boA true),Puk 91 [(stA x.ob.num)] (.tup [(inA n),(boA true)]),Bn .lss 3 (.tmp 18) (.const (vi 0)) (vi n) (vi 0) bF,Bn .gtr 3 (.tmp 22) (.const (vi 255)) (vi n) (vi 255) bF]) Tryz.func52 (by kernel_rfl) (by kernel_rfl) ⟨(p_rIsI x).b ((Tr.isI_ob x).trans hI),hs,bin_ilt (decide_eq_false (by omega)),bin_igt (decide_eq_false (by omega)),trivial⟩
    ·rw [decide_eq_false h1]
     exact pwalk (an:=[yT,.av (.tup [inA n,boA true]),yF,yT]) (ls:=[]) (ps:=[Puk 90 [(obA x.ob)] (boA true),Puk 91 [(stA x.ob.num)] (.tup [(inA n),(boA true)]),Bn .lss 3 (.tmp 18) (.const (vi 0)) (vi n) (vi 0) bF,Bn .gtr 3 (.tmp 22) (.const (vi 255)) (vi n) (vi 255) bT]) Tryz.func52 (by kernel_rfl) (by kernel_rfl) ⟨(p_rIsI x).b ((Tr.isI_ob x).trans hI),hs,bin_ilt (decide_eq_false (by omega)),bin_igt (decide_eq_true (by omega)),trivial⟩
   ·rw [decide_eq_false h0]
    exact pwalk (an:=[yT,.av (.tup [inA n,boA true]),yT]) (ls:=[]) (ps:=[Puk 90 [(obA x.ob)] (boA true),Puk 91 [(stA x.ob.num)] (.tup [(inA n),(boA true)]),Bn .lss 3 (.tmp 18) (.const (vi 0)) (vi n) (vi 0) bT]) Tryz.func52 (by kernel_rfl) (by kernel_rfl) ⟨(p_rIsI x).b ((Tr.isI_ob x).trans hI),hs,bin_ilt (decide_eq_true (by omega)),trivial⟩
end Go.Proofs.YthhknjlmjefklaaGreatDoor
namespace Go.Proofs.YthhknjlmjefklaaGreatDoor
open Go.RowKit
structure Arg (x:Tr):Prop where
 ok:x.Ok 120
 tx:x.tx.length≤40000
theorem Arg.rb {x:Tr} (h:Arg x):Rb 120 x.val:=h.ok.val (by decide)
theorem Arg.n {x:Tr} (h:Arg x):(Lib.itoa x.val.num).length≤121:=Rb.nlen h.rb
theorem Arg.d {x:Tr} (h:Arg x):(Lib.itoa (x.val.den:Int)).length≤121:=Rb.dlen h.rb
theorem p_rFl {x:Tr} (h:Arg x):Puk 150 [stA (ratO x.val).num,stA (ratO x.val).den] (.tup [stA (Lib.itoa (qd x.val.num x.val.den)),stA (Lib.itoa (rm x.val.num x.val.den))]):=by
 have h1:=h.n
 have h2:=h.d
 have:=p_rDiv (a:=(ratO x.val).num) (b:=(ratO x.val).den) (by show (Lib.itoa x.val.num).length≤_;omega) (by show (Lib.itoa (x.val.den:Int)).length≤_;omega)
 rw [show Dec.dval (ratO x.val).num=x.val.num from Dec.dval_itoa _,show Dec.dval (ratO x.val).den=(x.val.den:Int) from Dec.dval_itoa (x.val.den:Int)] at this
 exact this
theorem itoa_len {q:Int} {k:Nat} (hk:1≤k) (h:q.natAbs < 10 ^ k):(Lib.itoa q).length≤k+1:=itoa_length_any _ hk h
theorem qd_lt {x:Tr} (h:Arg x):(qd x.val.num x.val.den).natAbs < 10 ^ 121:=by
 have h1:=h.rb.num
 have hp:(0:Int) < x.val.den:=Int.natCast_pos.2 x.val.den_pos
 unfold qd
 rw [if_neg (by omega),if_pos hp]
 have h2:(x.val.num / (x.val.den:Int)).natAbs≤x.val.num.natAbs:=Int.natAbs_ediv_le_natAbs _ _
 exact Nat.lt_of_le_of_lt h2 (Nat.lt_of_lt_of_le h1 (Nat.pow_le_pow_right (by decide) (by decide)))
theorem qd_len {x:Tr} (h:Arg x):(Lib.itoa (qd x.val.num x.val.den)).length≤1000:=Nat.le_trans (itoa_len (by decide) (qd_lt h)) (by decide)
theorem p_oOne3 {x:Tr} (_hx:Arg x):Puk 174 [stA [99,97,114],trA x] (trA (Tr.ap 3 x nilT nilT)) :=
 pwalk (an:=[.no,.av (trA x.carT)]) (ls:=[]) (ps:=[Puk 212 [(obA x.ob),(inA 0)] (obA x.carT.ob)]) Tryz.func174 (by kernel_rfl) (by kernel_rfl) ⟨p_oHalf0 x,trivial⟩
theorem p_rOne5 {x:Tr} (_hx:Arg x):Puk 116 [stA [99,111,110,115,112],trA x] (trA (Tr.ap 5 x nilT nilT)) :=
 pwalk (an:=[.av (trA (.num x.val)),.no,.no,.no,.av (boA x.isC),.av (trA (truT x.isC))]) (ls:=[]) (ps:=[Puk 146 [(obA x.ob)] (trA (Tr.num x.val)),Bn .eql 3 (.tmp 33) (.const (vi 4)) (vi x.ob.kind) (vi 4) (Value.bool x.isC),Puk 147 [(boA x.isC)] (trA (truT x.isC))]) Tryz.func116 (by kernel_rfl) (by kernel_rfl) ⟨p_rFix x,bin_ieq (isC_k x),p_rTru _,trivial⟩
theorem p_rOne6 {x:Tr} (_hx:Arg x):Puk 116 [stA [115,121,109,98,111,108,112],trA x] (trA (Tr.ap 6 x nilT nilT)) :=
 pwalk (an:=[.av (trA (.num x.val)),.no,.no,.no,.no,.av (boA x.isY),.av (trA (truT x.isY))]) (ls:=[]) (ps:=[Puk 146 [(obA x.ob)] (trA (Tr.num x.val)),Bn .eql 3 (.tmp 39) (.const (vi 2)) (vi x.ob.kind) (vi 2) (Value.bool x.isY),Puk 147 [(boA x.isY)] (trA (truT x.isY))]) Tryz.func116 (by kernel_rfl) (by kernel_rfl) ⟨p_rFix x,bin_ieq (isY_k x),p_rTru _,trivial⟩
theorem p_rOne7 {x:Tr} (_hx:Arg x):Puk 116 [stA [115,116,114,105,110,103,112],trA x] (trA (Tr.ap 7 x nilT nilT)) :=
 pwalk (an:=[.av (trA (.num x.val)),.no,.no,.no,.no,.no,.av (boA x.isT),.av (trA (truT x.isT))]) (ls:=[]) (ps:=[Puk 146 [(obA x.ob)] (trA (Tr.num x.val)),Bn .eql 3 (.tmp 45) (.const (vi 3)) (vi x.ob.kind) (vi 3) (Value.bool x.isT),Puk 147 [(boA x.isT)] (trA (truT x.isT))]) Tryz.func116 (by kernel_rfl) (by kernel_rfl) ⟨p_rFix x,bin_ieq (isT_k x),p_rTru _,trivial⟩
theorem p_rOne8 {x:Tr} (_hx:Arg x):Puk 116 [stA [114,97,116,105,111,110,97,108,112],trA x] (trA (Tr.ap 8 x nilT nilT)) :=
 pwalk (an:=[.av (trA (.num x.val)),.no,.no,.no,.no,.no,.no,.av (boA x.isN),.av (trA (truT x.isN))]) (ls:=[]) (ps:=[Puk 146 [(obA x.ob)] (trA (Tr.num x.val)),Bn .eql 3 (.tmp 51) (.const (vi 1)) (vi x.ob.kind) (vi 1) (Value.bool x.isN),Puk 147 [(boA x.isN)] (trA (truT x.isN))]) Tryz.func116 (by kernel_rfl) (by kernel_rfl) ⟨p_rFix x,bin_ieq (isN_k x),p_rTru _,trivial⟩
theorem p_rOne9 {x:Tr} (_hx:Arg x):Puk 116 [stA [105,110,116,101,103,101,114,112],trA x] (trA (Tr.ap 9 x nilT nilT)) :=
 pwalk (an:=[.av (trA (.num x.val)),.no,.no,.no,.no,.no,.no,.no,.av (boA x.isI),.av (trA (truT x.isI))]) (ls:=[]) (ps:=[Puk 146 [(obA x.ob)] (trA (Tr.num x.val)),Puk 90 [(obA x.ob)] (boA x.isI),Puk 147 [(boA x.isI)] (trA (truT x.isI))]) Tryz.func116 (by kernel_rfl) (by kernel_rfl) ⟨p_rFix x,(p_rIsI x).b (Tr.isI_ob x),p_rTru _,trivial⟩
theorem p_rOne12 {x:Tr} (hx:Arg x):Puk 116 [stA [117,110,97,114,121,45,45],trA x] (trA (Tr.ap 12 x nilT nilT)) :=
 pwalk (an:=[.av (trA (.num x.val)),.no,.no,.no,.no,.no,.no,.no,.no,.av (trA (.num (-x.val)))]) (ls:=[]) (ps:=[Puk 146 [(obA x.ob)] (trA (Tr.num x.val)),Puk 148 [(obA x.ob)] (obA ((Tr.num (-x.val)).ob))]) Tryz.func116 (by kernel_rfl) (by kernel_rfl) ⟨p_rFix x,p_rOpp hx.ok (by decide) (by decide),trivial⟩
theorem p_rOne13 {x:Tr} (hx:Arg x):Puk 116 [stA [117,110,97,114,121,45,47],trA x] (trA (Tr.ap 13 x nilT nilT)) :=
 pwalk (an:=[.av (trA (.num x.val)),.no,.no,.no,.no,.no,.no,.no,.no,.no,.av (trA (.num x.val⁻¹))]) (ls:=[]) (ps:=[Puk 146 [(obA x.ob)] (trA (Tr.num x.val)),Puk 149 [(obA x.ob)] (obA ((Tr.num x.val⁻¹).ob))]) Tryz.func116 (by kernel_rfl) (by kernel_rfl) ⟨p_rFix x,p_rInv hx.ok (by decide) (by decide),trivial⟩
theorem p_rOne15 {x:Tr} (hx:Arg x):Puk 116 [stA [110,117,109,101,114,97,116,111,114],trA x] (trA (Tr.ap 15 x nilT nilT)) :=
 pwalk (an:=[.av (trA (.num x.val)),.no,.no,.no,.no,.no,.no,.no,.no,.no,.no,.av (trA (.num (x.val.num:Rat)))]) (ls:=[]) (ps:=[Puk 146 [(obA x.ob)] (trA (Tr.num x.val)),Puk 35 [(stA (Tr.num x.val).ob.num),(stA [49])] (trA (Tr.num ↑x.val.num))]) Tryz.func116 (by kernel_rfl) (by kernel_rfl) ⟨p_rFix x,p_rRatI (q:=x.val.num) (a:=(Tr.num x.val).ob.num) (by have:=hx.n;show (Lib.itoa x.val.num).length≤_;omega) (Dec.dval_itoa x.val.num),trivial⟩
theorem p_rOne16 {x:Tr} (hx:Arg x):Puk 116 [stA [100,101,110,111,109,105,110,97,116,111,114],trA x] (trA (Tr.ap 16 x nilT nilT)) :=
 pwalk (an:=[.av (trA (.num x.val)),.no,.no,.no,.no,.no,.no,.no,.no,.no,.no,.no,.av (trA (.num ((x.val.den:Int):Rat)))]) (ls:=[]) (ps:=[Puk 146 [(obA x.ob)] (trA (Tr.num x.val)),Puk 35 [(stA (Tr.num x.val).ob.den),(stA [49])] (trA (Tr.num ↑↑x.val.den))]) Tryz.func116 (by kernel_rfl) (by kernel_rfl) ⟨p_rFix x,p_rRatI (q:=(x.val.den:Int)) (a:=(Tr.num x.val).ob.den) (by have:=hx.d;show (Lib.itoa (x.val.den:Int)).length≤_;omega) (Dec.dval_itoa (x.val.den:Int)),trivial⟩
theorem p_rOne17 {x:Tr} (hx:Arg x):Puk 116 [stA [102,108,111,111,114],trA x] (trA (Tr.ap 17 x nilT nilT)) :=
 pwalk (an:=[.av (trA (.num x.val)),.no,.no,.no,.no,.no,.no,.no,.no,.no,.no,.no,.no,.av (.tup [stA (Lib.itoa (qd x.val.num x.val.den)),stA (Lib.itoa (rm x.val.num x.val.den))]),.av (trA (.num ((qd x.val.num x.val.den:Int):Rat)))]) (ls:=[]) (ps:=[Puk 146 [(obA x.ob)] (trA (Tr.num x.val)),Puk 150 [(stA (Tr.num x.val).ob.num),(stA (Tr.num x.val).ob.den)] (.tup [(stA (Lib.itoa (qd x.val.num ↑x.val.den))),(stA (Lib.itoa (rm x.val.num ↑x.val.den)))]),Puk 35 [(stA (Lib.itoa (qd x.val.num ↑x.val.den))),(stA [49])] (obA ((Tr.num ↑(qd x.val.num ↑x.val.den)).ob))]) Tryz.func116 (by kernel_rfl) (by kernel_rfl) ⟨p_rFix x,p_rFl hx,p_rRatI (a:=Lib.itoa (qd x.val.num x.val.den)) (by have:=qd_len hx;omega) (Dec.dval_itoa _),trivial⟩
theorem p_rOne18 {x:Tr} (_hx:Arg x):Puk 116 [stA [115,121,109,98,111,108,45,110,97,109,101],trA x] (trA (Tr.ap 18 x nilT nilT)) :=
 pwalk (an:=[.av (trA (.num x.val)),.no,.no,.no,.no,.no,.no,.no,.no,.no,.no,.no,.no,.no,.av (trA (.txt x.ob.sn))]) (ls:=[]) (ps:=[Puk 146 [(obA x.ob)] (trA (Tr.num x.val)),Puk 68 [(stA x.ob.sn)] (trA (Tr.txt x.ob.sn))]) Tryz.func116 (by kernel_rfl) (by kernel_rfl) ⟨p_rFix x,p_rText _,trivial⟩
theorem p_rOne19 {x:Tr} (_hx:Arg x):Puk 116 [stA [115,121,109,98,111,108,45,112,97,99,107,97,103,101,45,110,97,109,101],trA x] (trA (Tr.ap 19 x nilT nilT)) :=
 pwalk (an:=[.av (trA (.num x.val)),.no,.no,.no,.no,.no,.no,.no,.no,.no,.no,.no,.no,.no,.no,.av (trA (.txt x.ob.sp))]) (ls:=[]) (ps:=[Puk 146 [(obA x.ob)] (trA (Tr.num x.val)),Puk 68 [(stA x.ob.sp)] (trA (Tr.txt x.ob.sp))]) Tryz.func116 (by kernel_rfl) (by kernel_rfl) ⟨p_rFix x,p_rText _,trivial⟩
theorem p_rOne22 {x:Tr} (hx:Arg x):Puk 116 [stA [115,116,114,105,110,103,45,108,101,110,103,116,104],trA x] (trA (Tr.ap 22 x nilT nilT)) :=
 pwalk (an:=[.av (trA (.num x.val)),.no,.no,.no,.no,.no,.no,.no,.no,.no,.no,.no,.no,.no,.no,.no,.av (stA x.tx),.no,.av (trA (.num ((x.tx.length:Int):Rat)))]) (ls:=[]) (ps:=[Puk 146 [(obA x.ob)] (trA (Tr.num x.val)),Puk 151 [(obA x.ob)] (stA x.tx),Puk 12 [(inA (x.tx.length:Int))] (trA (Tr.num ↑↑x.tx.length))]) Tryz.func116 (by kernel_rfl) (by kernel_rfl) ⟨p_rFix x,p_rStr x,p_rInt (x.tx.length:Int) (by omega) (by have:=hx.tx;omega),trivial⟩
end Go.Proofs.YthhknjlmjefklaaGreatDoor
namespace Go.Proofs.YthhknjlmjefklaaGreatDoor
open Go.RowKit
theorem octV_some {x:Tr} {n:Int} (h:x.octV=some n):(smV x.ob.num).1=n∧ocR x=IntKind.u8.wrap n∧0≤n∧n≤255:=by
 unfold Tr.octV at h
 split at h
 ·rename_i hc
  unfold ocR
  rw [if_pos hc]
  simp only [Bool.and_eq_true,decide_eq_true_eq] at hc
  cases h
  exact ⟨rfl,rfl,hc.1.2,hc.2⟩
 ·cases h
theorem u8_n {n:Int} (h0:0≤n) (h1:n≤255):IntKind.u8.wrap n=((UInt8.ofNat n.toNat).toNat:Int):=by
 have e:(UInt8.ofNat n.toNat).toNat=n.toNat:=by
  rw [UInt8.toNat_ofNat']
  omega
 rw [e,show IntKind.u8.wrap n=n from by
  show (n % 256)=n
  omega]
 omega
theorem ap24_n {x:Tr} (h:x.octV=none):Tr.ap 24 x nilT nilT=.txt []:=by
 show (match x.octV with | some n=>Tr.txt [UInt8.ofNat n.toNat] | none=>Tr.txt [])=_
 rw [h]
theorem ap24_s {x:Tr} {n:Int} (h:x.octV=some n):Tr.ap 24 x nilT nilT=.txt [UInt8.ofNat n.toNat]:=by
 show (match x.octV with | some n=>Tr.txt [UInt8.ofNat n.toNat] | none=>Tr.txt [])=_
 rw [h]
theorem p_rIsC (x:Tr):Puk 102 [trA x] (boA x.isC):=by
 cases x with
 | num q=>exact (p_rIsCons (Tr.num q).ob (Nat.zero_le _)).b (decide_eq_false fun h=>absurd (show (1:Int)=4 from h.1) (by decide))
 | txt q=>exact (p_rIsCons (Tr.txt q).ob (Nat.zero_le _)).b (decide_eq_false fun h=>absurd (show (3:Int)=4 from h.1) (by decide))
 | sym p s=>exact (p_rIsCons (Tr.sym p s).ob (Nat.zero_le _)).b (decide_eq_false fun h=>absurd (show (2:Int)=4 from h.1) (by decide))
 | cons a d=>exact (p_rIsCons (Tr.cons a d).ob (show (2:Nat)≤_ by decide)).b (decide_eq_true ⟨rfl,rfl⟩)
theorem p_rOne24 {x:Tr} (hx:Arg x):Puk 116 [stA [98,121,116,101,45,115,116,114,105,110,103],trA x] (trA (Tr.ap 24 x nilT nilT)):=by
 have hc:=p_rOct hx.ok (by decide)
 cases ho:x.octV with
 | none =>
  rw [ap24_n ho]
  rw [ho] at hc
  exact pwalk (an:=[.av (trA (.num x.val)),.no,.no,.no,.no,.no,.no,.no,.no,.no,.no,.no,.no,.no,.no,.no,.no,.av (.tup [.dt (.val (.int .u8 (ocR x))),boA false]),.av (trA (.txt []))]) (ls:=[]) (ps:=[Puk 146 [(obA x.ob)] (trA (Tr.num x.val)),Puk 52 [(obA x.ob)] (.tup [(.dt (.val (Value.int .u8 (ocR x)))),(boA false)]),Puk 68 [(stA [])] (trA (Tr.txt []))]) Tryz.func116 (by kernel_rfl) (by kernel_rfl) ⟨p_rFix x,hc,p_rText [],trivial⟩
 | some n =>
  obtain ⟨h1,h3,h0,h2⟩:=octV_some ho
  rw [ap24_s ho]
  rw [ho,h3] at hc
  exact pwalk (an:=[.av (trA (.num x.val)),.no,.no,.no,.no,.no,.no,.no,.no,.no,.no,.no,.no,.no,.no,.no,.no,.av (.tup [.dt (.val (.int .u8 (IntKind.u8.wrap n))),boA true]),.av (stA [UInt8.ofNat n.toNat]),.av (trA (.txt [UInt8.ofNat n.toNat]))]) (ls:=[]) (ps:=[Puk 146 [(obA x.ob)] (trA (Tr.num x.val)),Puk 52 [(obA x.ob)] (.tup [(.dt (.val (Value.int .u8 (IntKind.u8.wrap n)))),(boA true)]),[[Dt.val (Value.int IntKind.u8 (IntKind.u8.wrap n))]]=[[Dt.val (Value.int IntKind.u8 ((UInt8.ofNat n.toNat).toNat:Int))]],Puk 68 [(stA [UInt8.ofNat n.toNat])] (trA (Tr.txt [UInt8.ofNat n.toNat]))]) Tryz.func116 (by kernel_rfl) (by kernel_rfl) ⟨p_rFix x,hc,by rw [u8_n h0 h2],p_rText _,trivial⟩
theorem p_rOne3 {x:Tr} (_:Arg x):Puk 116 [stA [99,97,114],trA x] (trA (Tr.ap 3 x nilT nilT)):=by
 cases x with
 | num q=>exact pwalk (an:=[.av (trA (.num (Tr.val (.num q)))),.no,.av (boA (Tr.isC (.num q))),.av (trA nilT)]) (ls:=[]) (ps:=[Puk 146 [(trA (Tr.num q))] (obA ((Tr.num (Tr.num q).val).ob)),Puk 102 [(trA (Tr.num q))] (boA false),Puk 28 [] (obA nilT.ob)]) Tryz.func116 (by kernel_rfl) (by kernel_rfl) ⟨p_rFix _,p_rIsC _,p_rNil7,trivial⟩
 | txt q=>exact pwalk (an:=[.av (trA (.num (Tr.val (.txt q)))),.no,.av (boA (Tr.isC (.txt q))),.av (trA nilT)]) (ls:=[]) (ps:=[Puk 146 [(trA (Tr.txt q))] (obA ((Tr.num (Tr.txt q).val).ob)),Puk 102 [(trA (Tr.txt q))] (boA false),Puk 28 [] (obA nilT.ob)]) Tryz.func116 (by kernel_rfl) (by kernel_rfl) ⟨p_rFix _,p_rIsC _,p_rNil7,trivial⟩
 | sym p s=>exact pwalk (an:=[.av (trA (.num (Tr.val (.sym p s)))),.no,.av (boA (Tr.isC (.sym p s))),.av (trA nilT)]) (ls:=[]) (ps:=[Puk 146 [(trA (Tr.sym p s))] (obA ((Tr.num (Tr.sym p s).val).ob)),Puk 102 [(trA (Tr.sym p s))] (boA false),Puk 28 [] (obA nilT.ob)]) Tryz.func116 (by kernel_rfl) (by kernel_rfl) ⟨p_rFix _,p_rIsC _,p_rNil7,trivial⟩
 | cons a d=>exact pwalk (an:=[.av (trA (.num (Tr.val (.cons a d)))),.no,.av (boA (Tr.isC (.cons a d))),.no,.av (pinO a.ob)]) (ls:=[]) (ps:=[Puk 146 [(trA (a.cons d))] (obA ((Tr.num (a.cons d).val).ob)),Puk 102 [(trA (a.cons d))] (boA true),IxAt (List.map Ob.enc (a.cons d).ob.pair) 0 7 (encL a.ob)]) Tryz.func116 (by kernel_rfl) (by kernel_rfl) ⟨p_rFix _,p_rIsC _,ix_obj (l:=[a.ob,d.ob]) (i:=0) rfl,trivial⟩
theorem p_rOne4 {x:Tr} (_:Arg x):Puk 116 [stA [99,100,114],trA x] (trA (Tr.ap 4 x nilT nilT)):=by
 cases x with
 | num q=>exact pwalk (an:=[.av (trA (.num (Tr.val (.num q)))),.no,.no,.av (boA (Tr.isC (.num q))),.av (trA nilT)]) (ls:=[]) (ps:=[Puk 146 [(trA (Tr.num q))] (obA ((Tr.num (Tr.num q).val).ob)),Puk 102 [(trA (Tr.num q))] (boA false),Puk 28 [] (obA nilT.ob)]) Tryz.func116 (by kernel_rfl) (by kernel_rfl) ⟨p_rFix _,p_rIsC _,p_rNil7,trivial⟩
 | txt q=>exact pwalk (an:=[.av (trA (.num (Tr.val (.txt q)))),.no,.no,.av (boA (Tr.isC (.txt q))),.av (trA nilT)]) (ls:=[]) (ps:=[Puk 146 [(trA (Tr.txt q))] (obA ((Tr.num (Tr.txt q).val).ob)),Puk 102 [(trA (Tr.txt q))] (boA false),Puk 28 [] (obA nilT.ob)]) Tryz.func116 (by kernel_rfl) (by kernel_rfl) ⟨p_rFix _,p_rIsC _,p_rNil7,trivial⟩
 | sym p s=>exact pwalk (an:=[.av (trA (.num (Tr.val (.sym p s)))),.no,.no,.av (boA (Tr.isC (.sym p s))),.av (trA nilT)]) (ls:=[]) (ps:=[Puk 146 [(trA (Tr.sym p s))] (obA ((Tr.num (Tr.sym p s).val).ob)),Puk 102 [(trA (Tr.sym p s))] (boA false),Puk 28 [] (obA nilT.ob)]) Tryz.func116 (by kernel_rfl) (by kernel_rfl) ⟨p_rFix _,p_rIsC _,p_rNil7,trivial⟩
 | cons a d=>exact pwalk (an:=[.av (trA (.num (Tr.val (.cons a d)))),.no,.no,.av (boA (Tr.isC (.cons a d))),.no,.av (pinO d.ob)]) (ls:=[]) (ps:=[Puk 146 [(trA (a.cons d))] (obA ((Tr.num (a.cons d).val).ob)),Puk 102 [(trA (a.cons d))] (boA true),IxAt (List.map Ob.enc (a.cons d).ob.pair) 1 7 (encL d.ob)]) Tryz.func116 (by kernel_rfl) (by kernel_rfl) ⟨p_rFix _,p_rIsC _,ix_obj (l:=[a.ob,d.ob]) (i:=1) rfl,trivial⟩
theorem p_rTwo1 {x y:Tr} (hx:Arg x) (_hy:Arg y):Puk 117 [stA [101,113,117,97,108],trA x,trA y] (trA (Tr.ap 1 x y nilT)):=pwalk (an:=[.no,.av (boA (decide (x=y))),.av (trA (truT (decide (x=y))))]) (ls:=[]) (ps:=[Puk 50 [(obA x.ob),(obA y.ob)] (boA (decide (x=y))),Puk 147 [(boA (decide (x=y)))] (obA ((truT (decide (x=y))).ob))]) Tryz.func117 (by kernel_rfl) (by kernel_rfl) ⟨p_rEq y hx.ok (by decide),p_rTru _,trivial⟩
theorem p_rTwo2 {x y:Tr} (_hx:Arg x) (_hy:Arg y):Puk 117 [stA [99,111,110,115],trA x,trA y] (trA (Tr.ap 2 x y nilT)):=pwalk (an:=[.no,.no,.av (trA (.cons x y))]) (ls:=[]) (ps:=[Puk 69 [(obA x.ob),(obA y.ob)] (trA (x.cons y))]) Tryz.func117 (by kernel_rfl) (by kernel_rfl) ⟨p_rCons x.ob y.ob,trivial⟩
theorem p_rTwo10 {x y:Tr} (hx:Arg x) (hy:Arg y):Puk 117 [stA [98,105,110,97,114,121,45,43],trA x,trA y] (trA (Tr.ap 10 x y nilT)):=pwalk (an:=[.no,.no,.no,.av (trA (.num (x.val+y.val)))]) (ls:=[]) (ps:=[Puk 152 [(obA x.ob),(obA y.ob)] (obA ((Tr.num (x.val+y.val)).ob))]) Tryz.func117 (by kernel_rfl) (by kernel_rfl) ⟨p_rSum hx.ok hy.ok (by decide) (by decide),trivial⟩
theorem p_rTwo11 {x y:Tr} (hx:Arg x) (hy:Arg y):Puk 117 [stA [98,105,110,97,114,121,45,42],trA x,trA y] (trA (Tr.ap 11 x y nilT)):=pwalk (an:=[.no,.no,.no,.no,.av (trA (.num (x.val * y.val)))]) (ls:=[]) (ps:=[Puk 153 [(obA x.ob),(obA y.ob)] (obA ((Tr.num (x.val * y.val)).ob))]) Tryz.func117 (by kernel_rfl) (by kernel_rfl) ⟨p_rProd hx.ok hy.ok (by decide) (by decide),trivial⟩
theorem p_rTwo14 {x y:Tr} (hx:Arg x) (hy:Arg y):Puk 117 [stA [60],trA x,trA y] (trA (Tr.ap 14 x y nilT)):=pwalk (an:=[.no,.no,.no,.no,.no,.av (boA (decide (x.val < y.val))),.av (trA (truT (decide (x.val < y.val))))]) (ls:=[]) (ps:=[Puk 154 [(obA x.ob),(obA y.ob)] (boA (decide (x.val < y.val))),Puk 147 [(boA (decide (x.val < y.val)))] (obA ((truT (decide (x.val < y.val))).ob))]) Tryz.func117 (by kernel_rfl) (by kernel_rfl) ⟨p_rLessN hx.ok hy.ok (by decide) (by decide),p_rTru _,trivial⟩
theorem p_rTwo21 {x y:Tr} (hx:Arg x) (hy:Arg y):Puk 117 [stA [115,116,114,105,110,103,45,97,112,112,101,110,100],trA x,trA y] (trA (Tr.ap 21 x y nilT)):=pwalk (an:=[.no,.no,.no,.no,.no,.no,.no,.av (stA x.tx),.av (stA y.tx),.av (stA (x.tx++y.tx)),.av (trA (.txt (x.tx++y.tx)))]) (ls:=[]) (ps:=[Puk 151 [(obA x.ob)] (stA x.tx),Puk 151 [(obA y.ob)] (stA y.tx),Bn .add 9 (.tmp 64) (.tmp 66) (str x.tx) (str y.tx) (str (x.tx++y.tx)),Puk 68 [(stA (x.tx++y.tx))] (obA ((Tr.txt (x.tx++y.tx)).ob))]) Tryz.func117 (by kernel_rfl) (by kernel_rfl) ⟨p_rStr x,p_rStr y,bin_strs (a:=x.tx) (b:=y.tx) (by have:=hx.tx;have:=hy.tx;omega),p_rText _,trivial⟩
theorem p_rTwo20 {x y:Tr} (hx:Arg x) (hy:Arg y):Puk 117 [stA [105,110,116,101,114,110],trA x,trA y] (trA (Tr.ap 20 x y nilT)):=by
 have lx:x.tx.length≤40000:=hx.tx
 have ly:y.tx.length≤40000:=hy.tx
 have e:Tr.ap 20 x y nilT=if x.isT && y.isT && symOk ⟨y.tx,x.tx⟩ then .sym y.tx x.tx else nilT:=rfl
 rw [e]
 cases hX:x.isT with
 | false=>exact pwalk (an:=[.no,.no,.no,.no,.no,.no,.av (stA y.tx),.av (stA x.tx),yT,.av (trA nilT)]) (ls:=[]) (ps:=[Puk 151 [(obA y.ob)] (stA y.tx),Puk 151 [(obA x.ob)] (stA x.tx),Bn .neq 3 (.tmp 46) (.const (vi 3)) (vi x.ob.kind) (vi 3) bT,Puk 28 [] (obA nilT.ob)]) Tryz.func117 (by kernel_rfl) (by kernel_rfl) ⟨p_rStr y,p_rStr x,bin_ine7 (by rw [isT_k,hX];rfl),p_rNil7,trivial⟩
 | true =>
  cases hY:y.isT with
  | false=>exact pwalk (an:=[.no,.no,.no,.no,.no,.no,.av (stA y.tx),.av (stA x.tx),yF,yT,.av (trA nilT)]) (ls:=[]) (ps:=[Puk 151 [(obA y.ob)] (stA y.tx),Puk 151 [(obA x.ob)] (stA x.tx),Bn .neq 3 (.tmp 46) (.const (vi 3)) (vi x.ob.kind) (vi 3) bF,Bn .neq 3 (.tmp 50) (.const (vi 3)) (vi y.ob.kind) (vi 3) bT,Puk 28 [] (obA nilT.ob)]) Tryz.func117 (by kernel_rfl) (by kernel_rfl) ⟨p_rStr y,p_rStr x,bin_ine7 (by rw [isT_k,hX];rfl),bin_ine7 (by rw [isT_k,hY];rfl),p_rNil7,trivial⟩
  | true =>
   cases hS:symOk ⟨y.tx,x.tx⟩ with
   | false=>exact pwalk (an:=[.no,.no,.no,.no,.no,.no,.av (stA y.tx),.av (stA x.tx),yF,yF,yF,.av (trA nilT)]) (ls:=[]) (ps:=[Puk 151 [(obA y.ob)] (stA y.tx),Puk 151 [(obA x.ob)] (stA x.tx),Bn .neq 3 (.tmp 46) (.const (vi 3)) (vi x.ob.kind) (vi 3) bF,Bn .neq 3 (.tmp 50) (.const (vi 3)) (vi y.ob.kind) (vi 3) bF,Puk 155 [(syA y.tx x.tx)] (boA false),Puk 28 [] (obA nilT.ob)]) Tryz.func117 (by kernel_rfl) (by kernel_rfl) ⟨p_rStr y,p_rStr x,bin_ine7 (by rw [isT_k,hX];rfl),bin_ine7 (by rw [isT_k,hY];rfl),(p_rSyV (p:=y.tx) (s:=x.tx) (by omega) (by omega)).b hS,p_rNil7,trivial⟩
   | true=>exact pwalk (an:=[.no,.no,.no,.no,.no,.no,.av (stA y.tx),.av (stA x.tx),yF,yF,yT,.av (trA (.sym y.tx x.tx))]) (ls:=[]) (ps:=[Puk 151 [(obA y.ob)] (stA y.tx),Puk 151 [(obA x.ob)] (stA x.tx),Bn .neq 3 (.tmp 46) (.const (vi 3)) (vi x.ob.kind) (vi 3) bF,Bn .neq 3 (.tmp 50) (.const (vi 3)) (vi y.ob.kind) (vi 3) bF,Puk 155 [(syA y.tx x.tx)] (boA true),Puk 59 [(syA y.tx x.tx)] (trA (Tr.sym y.tx x.tx))]) Tryz.func117 (by kernel_rfl) (by kernel_rfl) ⟨p_rStr y,p_rStr x,bin_ine7 (by rw [isT_k,hX];rfl),bin_ine7 (by rw [isT_k,hY];rfl),(p_rSyV (p:=y.tx) (s:=x.tx) (by omega) (by omega)).b hS,p_rSym7 _ _,trivial⟩
theorem ap23_n {x y:Tr} (h:x.ixV y=none):Tr.ap 23 x y nilT=nilT:=by
 show (match x.ixV y with | some n=>Tr.num (((x.tx.getD n.toNat 0).toNat:Int):Rat) | none=>nilT)=_
 rw [h]
theorem ap23_s {x y:Tr} {n:Int} (h:x.ixV y=some n):Tr.ap 23 x y nilT=.num (((x.tx.getD n.toNat 0).toNat:Int):Rat):=by
 show (match x.ixV y with | some n=>Tr.num (((x.tx.getD n.toNat 0).toNat:Int):Rat) | none=>nilT)=_
 rw [h]
theorem ixR_some {x i:Tr} {n:Int} (h:x.ixV i=some n):ixR7 x i=n:=by unfold ixR7;rw [h]
theorem getD_ix {l:List UInt8} {n:Int} (h0:0≤n) (h1:n < l.length):l[n.toNat]?=some (l.getD n.toNat 0):=by
 have h:n.toNat < l.length:=by omega
 rw [List.getD_eq_getElem?_getD,List.getElem?_eq_getElem h]
 rfl
theorem u8_wrap (b:UInt8):IntKind.i64.wrap (b.toNat:Int)=(b.toNat:Int):=by have:=b.toNat_lt;rw [IntKind.wrap_i64];omega
theorem p_rTwo23 {x y:Tr} (_hx:Arg x) (hy:Arg y):Puk 117 [stA [115,116,114,105,110,103,45,98,121,116,101],trA x,trA y] (trA (Tr.ap 23 x y nilT)):=by
 have hi:=p_rIx x hy.ok (by decide)
 cases ho:x.ixV y with
 | none =>
  rw [ap23_n ho]
  rw [ho] at hi
  exact pwalk (an:=[.no,.no,.no,.no,.no,.no,.no,.no,.av (.tup [inA (ixR7 x y),boA false]),.av (trA nilT)]) (ls:=[]) (ps:=[Puk 51 [(obA x.ob),(obA y.ob)] (.tup [(inA (ixR7 x y)),(boA false)]),Puk 28 [] (obA nilT.ob)]) Tryz.func117 (by kernel_rfl) (by kernel_rfl) ⟨hi,p_rNil7,trivial⟩
 | some n =>
  obtain ⟨_,_,_,h0,h1⟩:=ixV_some ho
  rw [ap23_s ho]
  rw [ho,ixR_some ho] at hi
  generalize hb:x.tx.getD n.toNat 0=b
  have hg:=getD_ix h0 h1
  rw [hb] at hg
  have:=b.toNat_lt
  exact pwalk (an:=[.no,.no,.no,.no,.no,.no,.no,.no,.av (.tup [inA n,boA true]),.av (.dt (.val (.int .u8 b.toNat))),.av (inA b.toNat),.av (trA (.num ((b.toNat:Int):Rat)))]) (ls:=[]) (ps:=[Puk 51 [(obA x.ob),(obA y.ob)] (.tup [(inA n),(boA true)]),IxS ({ data:=x.ob.text.toArray:ByteArray }) n (Value.int .u8 ↑b.toNat),(vi ↑b.toNat)=(vi (IntKind.i64.wrap ↑b.toNat)),Puk 12 [(inA ↑b.toNat)] (trA (Tr.num ↑↑b.toNat))]) Tryz.func117 (by kernel_rfl) (by kernel_rfl) ⟨hi,⟨b,h0,by rw [bytes_get];exact hg,rfl⟩,by rw [u8_wrap],p_rInt _ (by omega) (by omega),trivial⟩
end Go.Proofs.YthhknjlmjefklaaGreatDoor
namespace Go.Proofs.YthhknjlmjefklaaGreatDoor
open Go.RowKit
theorem rbI {k:Nat} {n:Int} (hk:1≤k) (h:n.natAbs < 10 ^ k):Rb k (n:Rat):=⟨by rw [Rat.num_intCast];exact h,by rw [Rat.den_intCast];exact Nat.lt_of_lt_of_le (by decide:1 < 10 ^ 1) (Nat.pow_le_pow_right (by decide) hk),hk⟩
theorem truT_ok {k:Nat} (b:Bool):(truT b).Ok k:=by cases b <;> exact ⟨by decide,by decide⟩
theorem nilT_ok {k:Nat}:nilT.Ok k:=⟨by decide,by decide⟩
theorem small_ok {n:Int} (h:n.natAbs < 10 ^ 5):(Tr.num (n:Rat)).Ok 300:=(rbI (k:=5) (by decide) h).mono (by decide)
theorem ap_ok {x y z:Tr} (hx:Arg x) (hy:Arg y) (hz:Arg z):∀ i:Nat,(Tr.ap i x y z).Ok 300
 | 0=>by
  show (if x=nilT then z else y).Ok 300
  split
  ·exact hz.ok.mono (by decide)
  ·exact hy.ok.mono (by decide)
 | 1=>truT_ok _
 | 2=>⟨hx.ok.mono (by decide),hy.ok.mono (by decide)⟩
 | 3=>by
  have h:=hx.ok
  cases x with
  | cons a d=>exact h.1.mono (by decide)
  | _=>exact nilT_ok
 | 4=>by
  have h:=hx.ok
  cases x with
  | cons a d=>exact h.2.mono (by decide)
  | _=>exact nilT_ok
 | 5=>truT_ok _
 | 6=>truT_ok _
 | 7=>truT_ok _
 | 8=>truT_ok _
 | 9=>truT_ok _
 | 10=>(hx.rb.add hy.rb).mono (by decide)
 | 11=>(hx.rb.mul hy.rb).mono (by decide)
 | 12=>hx.rb.neg.mono (by decide)
 | 13=>hx.rb.inv.mono (by decide)
 | 14=>truT_ok _
 | 15=>(rbI (k:=120) (by decide) hx.rb.num).mono (by decide)
 | 16=>(rbI (k:=120) (n:=(x.val.den:Int)) (by decide) (by rw [Int.natAbs_natCast];exact hx.rb.den)).mono (by decide)
 | 17=>(rbI (k:=121) (by decide) (qd_lt hx)).mono (by decide)
 | 18=>by
  have h:=hx.ok
  cases x with
  | sym p s=>exact h.2
  | _=>exact Nat.zero_le _
 | 19=>by
  have h:=hx.ok
  cases x with
  | sym p s=>exact h.1
  | _=>exact Nat.zero_le _
 | 20=>by
  show (if x.isT && y.isT && symOk ⟨y.tx,x.tx⟩ then Tr.sym y.tx x.tx else nilT).Ok 300
  split
  ·exact ⟨Nat.le_trans hy.tx (by decide),Nat.le_trans hx.tx (by decide)⟩
  ·exact nilT_ok
 | 21=>by
  have h1:=hx.tx
  have h2:=hy.tx
  show (x.tx++y.tx).length≤100000
  rw [List.length_append]
  omega
 | 22=>small_ok (by have:=hx.tx;show x.tx.length < 100000;omega)
 | 23=>by
  show (match x.ixV y with | some n=>Tr.num (((x.tx.getD n.toNat 0).toNat:Int):Rat) | none=>nilT).Ok 300
  split
  ·rename_i n _
   have:=(x.tx.getD n.toNat 0).toNat_lt
   exact small_ok (by show (x.tx.getD n.toNat 0).toNat < 100000;omega)
  ·exact nilT_ok
 | 24=>by
  show (match x.octV with | some n=>Tr.txt [UInt8.ofNat n.toNat] | none=>Tr.txt []).Ok 300
  split
  ·show 1≤100000
   decide
  ·exact Nat.zero_le _
 | _+25=>nilT_ok
theorem nil_arg:Arg nilT:=⟨nilT_ok,Nat.zero_le _⟩
theorem p_rApp0 {x y z:Tr} (hx:Arg x) (hy:Arg y) (hz:Arg z):Puk 88 [syA lispB [105,102],rowA [x,y,z]] (resT (Tr.kept' (Tr.ap 0 x y z))):=by
 have hv0:=p_rValid (t:=Tr.ap 0 x y z) (ap_ok hx hy hz 0) (by decide)
 have e:Tr.ap 0 x y z=if x=nilT then z else y:=rfl
 rw [e] at hv0 ⊢
 by_cases h:x=nilT
 ·rw [if_pos h] at hv0 ⊢
  cases hv:z.valid with
  | true =>
   rw [kept_t hv]
   exact pwalk (an:=[.av (.tup [inA 3,boA true]),.no,.no,.no,.no,.no,.no,yT,.no,yT]) (ls:=[]) (ps:=[Puk 10 [(syA lispB [105,102])] (.tup [(inA 3),(boA true)]),Puk 16 [(obA x.ob)] (boA true),Puk 118 [(obA z.ob)] (boA true)]) Tryz.func88 (by kernel_rfl) (by kernel_rfl) ⟨p_rAr0,(p_rIsNil7 hx.ok (by decide)).b (decide_eq_true h),hv0.b hv,trivial⟩
  | false =>
   rw [kept_f hv]
   exact pwalk (an:=[.av (.tup [inA 3,boA true]),.no,.no,.no,.no,.no,.no,yT,.no,yF]) (ls:=[]) (ps:=[Puk 10 [(syA lispB [105,102])] (.tup [(inA 3),(boA true)]),Puk 16 [(obA x.ob)] (boA true),Puk 118 [(obA z.ob)] (boA false)]) Tryz.func88 (by kernel_rfl) (by kernel_rfl) ⟨p_rAr0,(p_rIsNil7 hx.ok (by decide)).b (decide_eq_true h),hv0.b hv,trivial⟩
 ·rw [if_neg h] at hv0 ⊢
  cases hv:y.valid with
  | true =>
   rw [kept_t hv]
   exact pwalk (an:=[.av (.tup [inA 3,boA true]),.no,.no,.no,.no,.no,.no,yF,yT]) (ls:=[]) (ps:=[Puk 10 [(syA lispB [105,102])] (.tup [(inA 3),(boA true)]),Puk 16 [(obA x.ob)] (boA false),Puk 118 [(obA y.ob)] (boA true)]) Tryz.func88 (by kernel_rfl) (by kernel_rfl) ⟨p_rAr0,(p_rIsNil7 hx.ok (by decide)).b (decide_eq_false h),hv0.b hv,trivial⟩
  | false =>
   rw [kept_f hv]
   exact pwalk (an:=[.av (.tup [inA 3,boA true]),.no,.no,.no,.no,.no,.no,yF,yF]) (ls:=[]) (ps:=[Puk 10 [(syA lispB [105,102])] (.tup [(inA 3),(boA true)]),Puk 16 [(obA x.ob)] (boA false),Puk 118 [(obA y.ob)] (boA false)]) Tryz.func88 (by kernel_rfl) (by kernel_rfl) ⟨p_rAr0,(p_rIsNil7 hx.ok (by decide)).b (decide_eq_false h),hv0.b hv,trivial⟩
theorem p_rApp1 {x y:Tr} (hx:Arg x) (hy:Arg y):Puk 88 [syA lispB [101,113,117,97,108],rowA [x,y]] (resT (Tr.kept' (Tr.ap 1 x y nilT))):=by
 cases hv:(Tr.ap 1 x y nilT).valid with
 | true =>
  rw [kept_t hv]
  exact pwalk (an:=[.av (.tup [inA 2,boA true]),.no,.no,.no,.no,.no,.no,.av (trA (Tr.ap 1 x y nilT)),yT]) (ls:=[]) (ps:=[Puk 10 [(syA lispB [101,113,117,97,108])] (.tup [(inA 2),(boA true)]),Puk 117 [(stA [101,113,117,97,108]),(obA x.ob),(obA y.ob)] (trA (Tr.ap 1 x y nilT)),Puk 118 [(trA (Tr.ap 1 x y nilT))] (boA true)]) Tryz.func88 (by kernel_rfl) (by kernel_rfl) ⟨p_rAr1,p_rTwo1 hx hy,(p_rValid (t:=Tr.ap 1 x y nilT) (ap_ok hx hy nil_arg 1) (by decide)).b hv,trivial⟩
 | false =>
  rw [kept_f hv]
  exact pwalk (an:=[.av (.tup [inA 2,boA true]),.no,.no,.no,.no,.no,.no,.av (trA (Tr.ap 1 x y nilT)),yF]) (ls:=[]) (ps:=[Puk 10 [(syA lispB [101,113,117,97,108])] (.tup [(inA 2),(boA true)]),Puk 117 [(stA [101,113,117,97,108]),(obA x.ob),(obA y.ob)] (trA (Tr.ap 1 x y nilT)),Puk 118 [(trA (Tr.ap 1 x y nilT))] (boA false)]) Tryz.func88 (by kernel_rfl) (by kernel_rfl) ⟨p_rAr1,p_rTwo1 hx hy,(p_rValid (t:=Tr.ap 1 x y nilT) (ap_ok hx hy nil_arg 1) (by decide)).b hv,trivial⟩
theorem p_rApp2 {x y:Tr} (hx:Arg x) (hy:Arg y):Puk 88 [syA lispB [99,111,110,115],rowA [x,y]] (resT (Tr.kept' (Tr.ap 2 x y nilT))):=by
 cases hv:(Tr.ap 2 x y nilT).valid with
 | true =>
  rw [kept_t hv]
  exact pwalk (an:=[.av (.tup [inA 2,boA true]),.no,.no,.no,.no,.no,.no,.av (trA (Tr.ap 2 x y nilT)),yT]) (ls:=[]) (ps:=[Puk 10 [(syA lispB [99,111,110,115])] (.tup [(inA 2),(boA true)]),Puk 117 [(stA [99,111,110,115]),(obA x.ob),(obA y.ob)] (trA (Tr.ap 2 x y nilT)),Puk 118 [(trA (Tr.ap 2 x y nilT))] (boA true)]) Tryz.func88 (by kernel_rfl) (by kernel_rfl) ⟨p_rAr2,p_rTwo2 hx hy,(p_rValid (t:=Tr.ap 2 x y nilT) (ap_ok hx hy nil_arg 2) (by decide)).b hv,trivial⟩
 | false =>
  rw [kept_f hv]
  exact pwalk (an:=[.av (.tup [inA 2,boA true]),.no,.no,.no,.no,.no,.no,.av (trA (Tr.ap 2 x y nilT)),yF]) (ls:=[]) (ps:=[Puk 10 [(syA lispB [99,111,110,115])] (.tup [(inA 2),(boA true)]),Puk 117 [(stA [99,111,110,115]),(obA x.ob),(obA y.ob)] (trA (Tr.ap 2 x y nilT)),Puk 118 [(trA (Tr.ap 2 x y nilT))] (boA false)]) Tryz.func88 (by kernel_rfl) (by kernel_rfl) ⟨p_rAr2,p_rTwo2 hx hy,(p_rValid (t:=Tr.ap 2 x y nilT) (ap_ok hx hy nil_arg 2) (by decide)).b hv,trivial⟩
theorem p_oApp3 {x:Tr} (hx:Arg x):Puk 121 [syA lispB [99,97,114],rowA [x]] (resT (Tr.apO 3 x nilT nilT)):=pwalk (an:=[.av (.tup [inA 1,boA true]),.no,.no,.no,.no,.no,.no,.no,.no,.no,.no,.no,.no,.no,.av (trA (Tr.ap 3 x nilT nilT))]) (ls:=[]) (ps:=[Puk 38 [(syA lispB [99,97,114])] (.tup [(inA 1),(boA true)]),Puk 174 [(stA [99,97,114]),(obA x.ob)] (trA (Tr.ap 3 x nilT nilT))]) Tryz.func121 (by kernel_rfl) (by kernel_rfl) ⟨p_oAr3,p_oOne3 hx,trivial⟩
theorem p_rApp3 {x:Tr} (hx:Arg x):Puk 88 [syA lispB [99,97,114],rowA [x]] (resT (Tr.kept' (Tr.ap 3 x nilT nilT))):=by
 cases hv:(Tr.ap 3 x nilT nilT).valid with
 | true =>
  rw [kept_t hv]
  exact pwalk (an:=[.av (.tup [inA 1,boA true]),.no,.no,.no,.no,.av (trA (Tr.ap 3 x nilT nilT)),yT]) (ls:=[]) (ps:=[Puk 10 [(syA lispB [99,97,114])] (.tup [(inA 1),(boA true)]),Puk 116 [(stA [99,97,114]),(obA x.ob)] (trA (Tr.ap 3 x nilT nilT)),Puk 118 [(trA (Tr.ap 3 x nilT nilT))] (boA true)]) Tryz.func88 (by kernel_rfl) (by kernel_rfl) ⟨p_rAr3,p_rOne3 hx,(p_rValid (t:=Tr.ap 3 x nilT nilT) (ap_ok hx nil_arg nil_arg 3) (by decide)).b hv,trivial⟩
 | false =>
  rw [kept_f hv]
  exact pwalk (an:=[.av (.tup [inA 1,boA true]),.no,.no,.no,.no,.av (trA (Tr.ap 3 x nilT nilT)),yF]) (ls:=[]) (ps:=[Puk 10 [(syA lispB [99,97,114])] (.tup [(inA 1),(boA true)]),Puk 116 [(stA [99,97,114]),(obA x.ob)] (trA (Tr.ap 3 x nilT nilT)),Puk 118 [(trA (Tr.ap 3 x nilT nilT))] (boA false)]) Tryz.func88 (by kernel_rfl) (by kernel_rfl) ⟨p_rAr3,p_rOne3 hx,(p_rValid (t:=Tr.ap 3 x nilT nilT) (ap_ok hx nil_arg nil_arg 3) (by decide)).b hv,trivial⟩
theorem p_rApp4 {x:Tr} (hx:Arg x):Puk 88 [syA lispB [99,100,114],rowA [x]] (resT (Tr.kept' (Tr.ap 4 x nilT nilT))):=by
 cases hv:(Tr.ap 4 x nilT nilT).valid with
 | true =>
  rw [kept_t hv]
  exact pwalk (an:=[.av (.tup [inA 1,boA true]),.no,.no,.no,.no,.av (trA (Tr.ap 4 x nilT nilT)),yT]) (ls:=[]) (ps:=[Puk 10 [(syA lispB [99,100,114])] (.tup [(inA 1),(boA true)]),Puk 116 [(stA [99,100,114]),(obA x.ob)] (trA (Tr.ap 4 x nilT nilT)),Puk 118 [(trA (Tr.ap 4 x nilT nilT))] (boA true)]) Tryz.func88 (by kernel_rfl) (by kernel_rfl) ⟨p_rAr4,p_rOne4 hx,(p_rValid (t:=Tr.ap 4 x nilT nilT) (ap_ok hx nil_arg nil_arg 4) (by decide)).b hv,trivial⟩
 | false =>
  rw [kept_f hv]
  exact pwalk (an:=[.av (.tup [inA 1,boA true]),.no,.no,.no,.no,.av (trA (Tr.ap 4 x nilT nilT)),yF]) (ls:=[]) (ps:=[Puk 10 [(syA lispB [99,100,114])] (.tup [(inA 1),(boA true)]),Puk 116 [(stA [99,100,114]),(obA x.ob)] (trA (Tr.ap 4 x nilT nilT)),Puk 118 [(trA (Tr.ap 4 x nilT nilT))] (boA false)]) Tryz.func88 (by kernel_rfl) (by kernel_rfl) ⟨p_rAr4,p_rOne4 hx,(p_rValid (t:=Tr.ap 4 x nilT nilT) (ap_ok hx nil_arg nil_arg 4) (by decide)).b hv,trivial⟩
theorem p_rApp5 {x:Tr} (hx:Arg x):Puk 88 [syA lispB [99,111,110,115,112],rowA [x]] (resT (Tr.kept' (Tr.ap 5 x nilT nilT))):=by
 cases hv:(Tr.ap 5 x nilT nilT).valid with
 | true =>
  rw [kept_t hv]
  exact pwalk (an:=[.av (.tup [inA 1,boA true]),.no,.no,.no,.no,.av (trA (Tr.ap 5 x nilT nilT)),yT]) (ls:=[]) (ps:=[Puk 10 [(syA lispB [99,111,110,115,112])] (.tup [(inA 1),(boA true)]),Puk 116 [(stA [99,111,110,115,112]),(obA x.ob)] (trA (Tr.ap 5 x nilT nilT)),Puk 118 [(trA (Tr.ap 5 x nilT nilT))] (boA true)]) Tryz.func88 (by kernel_rfl) (by kernel_rfl) ⟨p_rAr5,p_rOne5 hx,(p_rValid (t:=Tr.ap 5 x nilT nilT) (ap_ok hx nil_arg nil_arg 5) (by decide)).b hv,trivial⟩
 | false =>
  rw [kept_f hv]
  exact pwalk (an:=[.av (.tup [inA 1,boA true]),.no,.no,.no,.no,.av (trA (Tr.ap 5 x nilT nilT)),yF]) (ls:=[]) (ps:=[Puk 10 [(syA lispB [99,111,110,115,112])] (.tup [(inA 1),(boA true)]),Puk 116 [(stA [99,111,110,115,112]),(obA x.ob)] (trA (Tr.ap 5 x nilT nilT)),Puk 118 [(trA (Tr.ap 5 x nilT nilT))] (boA false)]) Tryz.func88 (by kernel_rfl) (by kernel_rfl) ⟨p_rAr5,p_rOne5 hx,(p_rValid (t:=Tr.ap 5 x nilT nilT) (ap_ok hx nil_arg nil_arg 5) (by decide)).b hv,trivial⟩
theorem p_rApp6 {x:Tr} (hx:Arg x):Puk 88 [syA lispB [115,121,109,98,111,108,112],rowA [x]] (resT (Tr.kept' (Tr.ap 6 x nilT nilT))):=by
 cases hv:(Tr.ap 6 x nilT nilT).valid with
 | true =>
  rw [kept_t hv]
  exact pwalk (an:=[.av (.tup [inA 1,boA true]),.no,.no,.no,.no,.av (trA (Tr.ap 6 x nilT nilT)),yT]) (ls:=[]) (ps:=[Puk 10 [(syA lispB [115,121,109,98,111,108,112])] (.tup [(inA 1),(boA true)]),Puk 116 [(stA [115,121,109,98,111,108,112]),(obA x.ob)] (trA (Tr.ap 6 x nilT nilT)),Puk 118 [(trA (Tr.ap 6 x nilT nilT))] (boA true)]) Tryz.func88 (by kernel_rfl) (by kernel_rfl) ⟨p_rAr6,p_rOne6 hx,(p_rValid (t:=Tr.ap 6 x nilT nilT) (ap_ok hx nil_arg nil_arg 6) (by decide)).b hv,trivial⟩
 | false =>
  rw [kept_f hv]
  exact pwalk (an:=[.av (.tup [inA 1,boA true]),.no,.no,.no,.no,.av (trA (Tr.ap 6 x nilT nilT)),yF]) (ls:=[]) (ps:=[Puk 10 [(syA lispB [115,121,109,98,111,108,112])] (.tup [(inA 1),(boA true)]),Puk 116 [(stA [115,121,109,98,111,108,112]),(obA x.ob)] (trA (Tr.ap 6 x nilT nilT)),Puk 118 [(trA (Tr.ap 6 x nilT nilT))] (boA false)]) Tryz.func88 (by kernel_rfl) (by kernel_rfl) ⟨p_rAr6,p_rOne6 hx,(p_rValid (t:=Tr.ap 6 x nilT nilT) (ap_ok hx nil_arg nil_arg 6) (by decide)).b hv,trivial⟩
theorem p_rApp7 {x:Tr} (hx:Arg x):Puk 88 [syA lispB [115,116,114,105,110,103,112],rowA [x]] (resT (Tr.kept' (Tr.ap 7 x nilT nilT))):=by
 cases hv:(Tr.ap 7 x nilT nilT).valid with
 | true =>
  rw [kept_t hv]
  exact pwalk (an:=[.av (.tup [inA 1,boA true]),.no,.no,.no,.no,.av (trA (Tr.ap 7 x nilT nilT)),yT]) (ls:=[]) (ps:=[Puk 10 [(syA lispB [115,116,114,105,110,103,112])] (.tup [(inA 1),(boA true)]),Puk 116 [(stA [115,116,114,105,110,103,112]),(obA x.ob)] (trA (Tr.ap 7 x nilT nilT)),Puk 118 [(trA (Tr.ap 7 x nilT nilT))] (boA true)]) Tryz.func88 (by kernel_rfl) (by kernel_rfl) ⟨p_rAr7,p_rOne7 hx,(p_rValid (t:=Tr.ap 7 x nilT nilT) (ap_ok hx nil_arg nil_arg 7) (by decide)).b hv,trivial⟩
 | false =>
  rw [kept_f hv]
  exact pwalk (an:=[.av (.tup [inA 1,boA true]),.no,.no,.no,.no,.av (trA (Tr.ap 7 x nilT nilT)),yF]) (ls:=[]) (ps:=[Puk 10 [(syA lispB [115,116,114,105,110,103,112])] (.tup [(inA 1),(boA true)]),Puk 116 [(stA [115,116,114,105,110,103,112]),(obA x.ob)] (trA (Tr.ap 7 x nilT nilT)),Puk 118 [(trA (Tr.ap 7 x nilT nilT))] (boA false)]) Tryz.func88 (by kernel_rfl) (by kernel_rfl) ⟨p_rAr7,p_rOne7 hx,(p_rValid (t:=Tr.ap 7 x nilT nilT) (ap_ok hx nil_arg nil_arg 7) (by decide)).b hv,trivial⟩
theorem p_rApp8 {x:Tr} (hx:Arg x):Puk 88 [syA lispB [114,97,116,105,111,110,97,108,112],rowA [x]] (resT (Tr.kept' (Tr.ap 8 x nilT nilT))):=by
 cases hv:(Tr.ap 8 x nilT nilT).valid with
 | true =>
  rw [kept_t hv]
  exact pwalk (an:=[.av (.tup [inA 1,boA true]),.no,.no,.no,.no,.av (trA (Tr.ap 8 x nilT nilT)),yT]) (ls:=[]) (ps:=[Puk 10 [(syA lispB [114,97,116,105,111,110,97,108,112])] (.tup [(inA 1),(boA true)]),Puk 116 [(stA [114,97,116,105,111,110,97,108,112]),(obA x.ob)] (trA (Tr.ap 8 x nilT nilT)),Puk 118 [(trA (Tr.ap 8 x nilT nilT))] (boA true)]) Tryz.func88 (by kernel_rfl) (by kernel_rfl) ⟨p_rAr8,p_rOne8 hx,(p_rValid (t:=Tr.ap 8 x nilT nilT) (ap_ok hx nil_arg nil_arg 8) (by decide)).b hv,trivial⟩
 | false =>
  rw [kept_f hv]
  exact pwalk (an:=[.av (.tup [inA 1,boA true]),.no,.no,.no,.no,.av (trA (Tr.ap 8 x nilT nilT)),yF]) (ls:=[]) (ps:=[Puk 10 [(syA lispB [114,97,116,105,111,110,97,108,112])] (.tup [(inA 1),(boA true)]),Puk 116 [(stA [114,97,116,105,111,110,97,108,112]),(obA x.ob)] (trA (Tr.ap 8 x nilT nilT)),Puk 118 [(trA (Tr.ap 8 x nilT nilT))] (boA false)]) Tryz.func88 (by kernel_rfl) (by kernel_rfl) ⟨p_rAr8,p_rOne8 hx,(p_rValid (t:=Tr.ap 8 x nilT nilT) (ap_ok hx nil_arg nil_arg 8) (by decide)).b hv,trivial⟩
theorem p_rApp9 {x:Tr} (hx:Arg x):Puk 88 [syA lispB [105,110,116,101,103,101,114,112],rowA [x]] (resT (Tr.kept' (Tr.ap 9 x nilT nilT))):=by
 cases hv:(Tr.ap 9 x nilT nilT).valid with
 | true =>
  rw [kept_t hv]
  exact pwalk (an:=[.av (.tup [inA 1,boA true]),.no,.no,.no,.no,.av (trA (Tr.ap 9 x nilT nilT)),yT]) (ls:=[]) (ps:=[Puk 10 [(syA lispB [105,110,116,101,103,101,114,112])] (.tup [(inA 1),(boA true)]),Puk 116 [(stA [105,110,116,101,103,101,114,112]),(obA x.ob)] (trA (Tr.ap 9 x nilT nilT)),Puk 118 [(trA (Tr.ap 9 x nilT nilT))] (boA true)]) Tryz.func88 (by kernel_rfl) (by kernel_rfl) ⟨p_rAr9,p_rOne9 hx,(p_rValid (t:=Tr.ap 9 x nilT nilT) (ap_ok hx nil_arg nil_arg 9) (by decide)).b hv,trivial⟩
 | false =>
  rw [kept_f hv]
  exact pwalk (an:=[.av (.tup [inA 1,boA true]),.no,.no,.no,.no,.av (trA (Tr.ap 9 x nilT nilT)),yF]) (ls:=[]) (ps:=[Puk 10 [(syA lispB [105,110,116,101,103,101,114,112])] (.tup [(inA 1),(boA true)]),Puk 116 [(stA [105,110,116,101,103,101,114,112]),(obA x.ob)] (trA (Tr.ap 9 x nilT nilT)),Puk 118 [(trA (Tr.ap 9 x nilT nilT))] (boA false)]) Tryz.func88 (by kernel_rfl) (by kernel_rfl) ⟨p_rAr9,p_rOne9 hx,(p_rValid (t:=Tr.ap 9 x nilT nilT) (ap_ok hx nil_arg nil_arg 9) (by decide)).b hv,trivial⟩
theorem p_rApp10 {x y:Tr} (hx:Arg x) (hy:Arg y):Puk 88 [syA lispB [98,105,110,97,114,121,45,43],rowA [x,y]] (resT (Tr.kept' (Tr.ap 10 x y nilT))):=by
 cases hv:(Tr.ap 10 x y nilT).valid with
 | true =>
  rw [kept_t hv]
  exact pwalk (an:=[.av (.tup [inA 2,boA true]),.no,.no,.no,.no,.no,.no,.av (trA (Tr.ap 10 x y nilT)),yT]) (ls:=[]) (ps:=[Puk 10 [(syA lispB [98,105,110,97,114,121,45,43])] (.tup [(inA 2),(boA true)]),Puk 117 [(stA [98,105,110,97,114,121,45,43]),(obA x.ob),(obA y.ob)] (trA (Tr.ap 10 x y nilT)),Puk 118 [(trA (Tr.ap 10 x y nilT))] (boA true)]) Tryz.func88 (by kernel_rfl) (by kernel_rfl) ⟨p_rAr10,p_rTwo10 hx hy,(p_rValid (t:=Tr.ap 10 x y nilT) (ap_ok hx hy nil_arg 10) (by decide)).b hv,trivial⟩
 | false =>
  rw [kept_f hv]
  exact pwalk (an:=[.av (.tup [inA 2,boA true]),.no,.no,.no,.no,.no,.no,.av (trA (Tr.ap 10 x y nilT)),yF]) (ls:=[]) (ps:=[Puk 10 [(syA lispB [98,105,110,97,114,121,45,43])] (.tup [(inA 2),(boA true)]),Puk 117 [(stA [98,105,110,97,114,121,45,43]),(obA x.ob),(obA y.ob)] (trA (Tr.ap 10 x y nilT)),Puk 118 [(trA (Tr.ap 10 x y nilT))] (boA false)]) Tryz.func88 (by kernel_rfl) (by kernel_rfl) ⟨p_rAr10,p_rTwo10 hx hy,(p_rValid (t:=Tr.ap 10 x y nilT) (ap_ok hx hy nil_arg 10) (by decide)).b hv,trivial⟩
theorem p_rApp11 {x y:Tr} (hx:Arg x) (hy:Arg y):Puk 88 [syA lispB [98,105,110,97,114,121,45,42],rowA [x,y]] (resT (Tr.kept' (Tr.ap 11 x y nilT))):=by
 cases hv:(Tr.ap 11 x y nilT).valid with
 | true =>
  rw [kept_t hv]
  exact pwalk (an:=[.av (.tup [inA 2,boA true]),.no,.no,.no,.no,.no,.no,.av (trA (Tr.ap 11 x y nilT)),yT]) (ls:=[]) (ps:=[Puk 10 [(syA lispB [98,105,110,97,114,121,45,42])] (.tup [(inA 2),(boA true)]),Puk 117 [(stA [98,105,110,97,114,121,45,42]),(obA x.ob),(obA y.ob)] (trA (Tr.ap 11 x y nilT)),Puk 118 [(trA (Tr.ap 11 x y nilT))] (boA true)]) Tryz.func88 (by kernel_rfl) (by kernel_rfl) ⟨p_rAr11,p_rTwo11 hx hy,(p_rValid (t:=Tr.ap 11 x y nilT) (ap_ok hx hy nil_arg 11) (by decide)).b hv,trivial⟩
 | false =>
  rw [kept_f hv]
  exact pwalk (an:=[.av (.tup [inA 2,boA true]),.no,.no,.no,.no,.no,.no,.av (trA (Tr.ap 11 x y nilT)),yF]) (ls:=[]) (ps:=[Puk 10 [(syA lispB [98,105,110,97,114,121,45,42])] (.tup [(inA 2),(boA true)]),Puk 117 [(stA [98,105,110,97,114,121,45,42]),(obA x.ob),(obA y.ob)] (trA (Tr.ap 11 x y nilT)),Puk 118 [(trA (Tr.ap 11 x y nilT))] (boA false)]) Tryz.func88 (by kernel_rfl) (by kernel_rfl) ⟨p_rAr11,p_rTwo11 hx hy,(p_rValid (t:=Tr.ap 11 x y nilT) (ap_ok hx hy nil_arg 11) (by decide)).b hv,trivial⟩
theorem p_rApp12 {x:Tr} (hx:Arg x):Puk 88 [syA lispB [117,110,97,114,121,45,45],rowA [x]] (resT (Tr.kept' (Tr.ap 12 x nilT nilT))):=by
 cases hv:(Tr.ap 12 x nilT nilT).valid with
 | true =>
  rw [kept_t hv]
  exact pwalk (an:=[.av (.tup [inA 1,boA true]),.no,.no,.no,.no,.av (trA (Tr.ap 12 x nilT nilT)),yT]) (ls:=[]) (ps:=[Puk 10 [(syA lispB [117,110,97,114,121,45,45])] (.tup [(inA 1),(boA true)]),Puk 116 [(stA [117,110,97,114,121,45,45]),(obA x.ob)] (trA (Tr.ap 12 x nilT nilT)),Puk 118 [(trA (Tr.ap 12 x nilT nilT))] (boA true)]) Tryz.func88 (by kernel_rfl) (by kernel_rfl) ⟨p_rAr12,p_rOne12 hx,(p_rValid (t:=Tr.ap 12 x nilT nilT) (ap_ok hx nil_arg nil_arg 12) (by decide)).b hv,trivial⟩
 | false =>
  rw [kept_f hv]
  exact pwalk (an:=[.av (.tup [inA 1,boA true]),.no,.no,.no,.no,.av (trA (Tr.ap 12 x nilT nilT)),yF]) (ls:=[]) (ps:=[Puk 10 [(syA lispB [117,110,97,114,121,45,45])] (.tup [(inA 1),(boA true)]),Puk 116 [(stA [117,110,97,114,121,45,45]),(obA x.ob)] (trA (Tr.ap 12 x nilT nilT)),Puk 118 [(trA (Tr.ap 12 x nilT nilT))] (boA false)]) Tryz.func88 (by kernel_rfl) (by kernel_rfl) ⟨p_rAr12,p_rOne12 hx,(p_rValid (t:=Tr.ap 12 x nilT nilT) (ap_ok hx nil_arg nil_arg 12) (by decide)).b hv,trivial⟩
theorem p_rApp13 {x:Tr} (hx:Arg x):Puk 88 [syA lispB [117,110,97,114,121,45,47],rowA [x]] (resT (Tr.kept' (Tr.ap 13 x nilT nilT))):=by
 cases hv:(Tr.ap 13 x nilT nilT).valid with
 | true =>
  rw [kept_t hv]
  exact pwalk (an:=[.av (.tup [inA 1,boA true]),.no,.no,.no,.no,.av (trA (Tr.ap 13 x nilT nilT)),yT]) (ls:=[]) (ps:=[Puk 10 [(syA lispB [117,110,97,114,121,45,47])] (.tup [(inA 1),(boA true)]),Puk 116 [(stA [117,110,97,114,121,45,47]),(obA x.ob)] (trA (Tr.ap 13 x nilT nilT)),Puk 118 [(trA (Tr.ap 13 x nilT nilT))] (boA true)]) Tryz.func88 (by kernel_rfl) (by kernel_rfl) ⟨p_rAr13,p_rOne13 hx,(p_rValid (t:=Tr.ap 13 x nilT nilT) (ap_ok hx nil_arg nil_arg 13) (by decide)).b hv,trivial⟩
 | false =>
  rw [kept_f hv]
  exact pwalk (an:=[.av (.tup [inA 1,boA true]),.no,.no,.no,.no,.av (trA (Tr.ap 13 x nilT nilT)),yF]) (ls:=[]) (ps:=[Puk 10 [(syA lispB [117,110,97,114,121,45,47])] (.tup [(inA 1),(boA true)]),Puk 116 [(stA [117,110,97,114,121,45,47]),(obA x.ob)] (trA (Tr.ap 13 x nilT nilT)),Puk 118 [(trA (Tr.ap 13 x nilT nilT))] (boA false)]) Tryz.func88 (by kernel_rfl) (by kernel_rfl) ⟨p_rAr13,p_rOne13 hx,(p_rValid (t:=Tr.ap 13 x nilT nilT) (ap_ok hx nil_arg nil_arg 13) (by decide)).b hv,trivial⟩
theorem p_rApp14 {x y:Tr} (hx:Arg x) (hy:Arg y):Puk 88 [syA lispB [60],rowA [x,y]] (resT (Tr.kept' (Tr.ap 14 x y nilT))):=by
 cases hv:(Tr.ap 14 x y nilT).valid with
 | true =>
  rw [kept_t hv]
  exact pwalk (an:=[.av (.tup [inA 2,boA true]),.no,.no,.no,.no,.no,.no,.av (trA (Tr.ap 14 x y nilT)),yT]) (ls:=[]) (ps:=[Puk 10 [(syA lispB [60])] (.tup [(inA 2),(boA true)]),Puk 117 [(stA [60]),(obA x.ob),(obA y.ob)] (trA (Tr.ap 14 x y nilT)),Puk 118 [(trA (Tr.ap 14 x y nilT))] (boA true)]) Tryz.func88 (by kernel_rfl) (by kernel_rfl) ⟨p_rAr14,p_rTwo14 hx hy,(p_rValid (t:=Tr.ap 14 x y nilT) (ap_ok hx hy nil_arg 14) (by decide)).b hv,trivial⟩
 | false =>
  rw [kept_f hv]
  exact pwalk (an:=[.av (.tup [inA 2,boA true]),.no,.no,.no,.no,.no,.no,.av (trA (Tr.ap 14 x y nilT)),yF]) (ls:=[]) (ps:=[Puk 10 [(syA lispB [60])] (.tup [(inA 2),(boA true)]),Puk 117 [(stA [60]),(obA x.ob),(obA y.ob)] (trA (Tr.ap 14 x y nilT)),Puk 118 [(trA (Tr.ap 14 x y nilT))] (boA false)]) Tryz.func88 (by kernel_rfl) (by kernel_rfl) ⟨p_rAr14,p_rTwo14 hx hy,(p_rValid (t:=Tr.ap 14 x y nilT) (ap_ok hx hy nil_arg 14) (by decide)).b hv,trivial⟩
theorem p_rApp15 {x:Tr} (hx:Arg x):Puk 88 [syA lispB [110,117,109,101,114,97,116,111,114],rowA [x]] (resT (Tr.kept' (Tr.ap 15 x nilT nilT))):=by
 cases hv:(Tr.ap 15 x nilT nilT).valid with
 | true =>
  rw [kept_t hv]
  exact pwalk (an:=[.av (.tup [inA 1,boA true]),.no,.no,.no,.no,.av (trA (Tr.ap 15 x nilT nilT)),yT]) (ls:=[]) (ps:=[Puk 10 [(syA lispB [110,117,109,101,114,97,116,111,114])] (.tup [(inA 1),(boA true)]),Puk 116 [(stA [110,117,109,101,114,97,116,111,114]),(obA x.ob)] (trA (Tr.ap 15 x nilT nilT)),Puk 118 [(trA (Tr.ap 15 x nilT nilT))] (boA true)]) Tryz.func88 (by kernel_rfl) (by kernel_rfl) ⟨p_rAr15,p_rOne15 hx,(p_rValid (t:=Tr.ap 15 x nilT nilT) (ap_ok hx nil_arg nil_arg 15) (by decide)).b hv,trivial⟩
 | false =>
  rw [kept_f hv]
  exact pwalk (an:=[.av (.tup [inA 1,boA true]),.no,.no,.no,.no,.av (trA (Tr.ap 15 x nilT nilT)),yF]) (ls:=[]) (ps:=[Puk 10 [(syA lispB [110,117,109,101,114,97,116,111,114])] (.tup [(inA 1),(boA true)]),Puk 116 [(stA [110,117,109,101,114,97,116,111,114]),(obA x.ob)] (trA (Tr.ap 15 x nilT nilT)),Puk 118 [(trA (Tr.ap 15 x nilT nilT))] (boA false)]) Tryz.func88 (by kernel_rfl) (by kernel_rfl) ⟨p_rAr15,p_rOne15 hx,(p_rValid (t:=Tr.ap 15 x nilT nilT) (ap_ok hx nil_arg nil_arg 15) (by decide)).b hv,trivial⟩
theorem p_rApp16 {x:Tr} (hx:Arg x):Puk 88 [syA lispB [100,101,110,111,109,105,110,97,116,111,114],rowA [x]] (resT (Tr.kept' (Tr.ap 16 x nilT nilT))):=by
 cases hv:(Tr.ap 16 x nilT nilT).valid with
 | true =>
  rw [kept_t hv]
  exact pwalk (an:=[.av (.tup [inA 1,boA true]),.no,.no,.no,.no,.av (trA (Tr.ap 16 x nilT nilT)),yT]) (ls:=[]) (ps:=[Puk 10 [(syA lispB [100,101,110,111,109,105,110,97,116,111,114])] (.tup [(inA 1),(boA true)]),Puk 116 [(stA [100,101,110,111,109,105,110,97,116,111,114]),(obA x.ob)] (trA (Tr.ap 16 x nilT nilT)),Puk 118 [(trA (Tr.ap 16 x nilT nilT))] (boA true)]) Tryz.func88 (by kernel_rfl) (by kernel_rfl) ⟨p_rAr16,p_rOne16 hx,(p_rValid (t:=Tr.ap 16 x nilT nilT) (ap_ok hx nil_arg nil_arg 16) (by decide)).b hv,trivial⟩
 | false =>
  rw [kept_f hv]
  exact pwalk (an:=[.av (.tup [inA 1,boA true]),.no,.no,.no,.no,.av (trA (Tr.ap 16 x nilT nilT)),yF]) (ls:=[]) (ps:=[Puk 10 [(syA lispB [100,101,110,111,109,105,110,97,116,111,114])] (.tup [(inA 1),(boA true)]),Puk 116 [(stA [100,101,110,111,109,105,110,97,116,111,114]),(obA x.ob)] (trA (Tr.ap 16 x nilT nilT)),Puk 118 [(trA (Tr.ap 16 x nilT nilT))] (boA false)]) Tryz.func88 (by kernel_rfl) (by kernel_rfl) ⟨p_rAr16,p_rOne16 hx,(p_rValid (t:=Tr.ap 16 x nilT nilT) (ap_ok hx nil_arg nil_arg 16) (by decide)).b hv,trivial⟩
theorem p_rApp17 {x:Tr} (hx:Arg x):Puk 88 [syA lispB [102,108,111,111,114],rowA [x]] (resT (Tr.kept' (Tr.ap 17 x nilT nilT))):=by
 cases hv:(Tr.ap 17 x nilT nilT).valid with
 | true =>
  rw [kept_t hv]
  exact pwalk (an:=[.av (.tup [inA 1,boA true]),.no,.no,.no,.no,.av (trA (Tr.ap 17 x nilT nilT)),yT]) (ls:=[]) (ps:=[Puk 10 [(syA lispB [102,108,111,111,114])] (.tup [(inA 1),(boA true)]),Puk 116 [(stA [102,108,111,111,114]),(obA x.ob)] (trA (Tr.ap 17 x nilT nilT)),Puk 118 [(trA (Tr.ap 17 x nilT nilT))] (boA true)]) Tryz.func88 (by kernel_rfl) (by kernel_rfl) ⟨p_rAr17,p_rOne17 hx,(p_rValid (t:=Tr.ap 17 x nilT nilT) (ap_ok hx nil_arg nil_arg 17) (by decide)).b hv,trivial⟩
 | false =>
  rw [kept_f hv]
  exact pwalk (an:=[.av (.tup [inA 1,boA true]),.no,.no,.no,.no,.av (trA (Tr.ap 17 x nilT nilT)),yF]) (ls:=[]) (ps:=[Puk 10 [(syA lispB [102,108,111,111,114])] (.tup [(inA 1),(boA true)]),Puk 116 [(stA [102,108,111,111,114]),(obA x.ob)] (trA (Tr.ap 17 x nilT nilT)),Puk 118 [(trA (Tr.ap 17 x nilT nilT))] (boA false)]) Tryz.func88 (by kernel_rfl) (by kernel_rfl) ⟨p_rAr17,p_rOne17 hx,(p_rValid (t:=Tr.ap 17 x nilT nilT) (ap_ok hx nil_arg nil_arg 17) (by decide)).b hv,trivial⟩
theorem p_rApp18 {x:Tr} (hx:Arg x):Puk 88 [syA lispB [115,121,109,98,111,108,45,110,97,109,101],rowA [x]] (resT (Tr.kept' (Tr.ap 18 x nilT nilT))):=by
 cases hv:(Tr.ap 18 x nilT nilT).valid with
 | true =>
  rw [kept_t hv]
  exact pwalk (an:=[.av (.tup [inA 1,boA true]),.no,.no,.no,.no,.av (trA (Tr.ap 18 x nilT nilT)),yT]) (ls:=[]) (ps:=[Puk 10 [(syA lispB [115,121,109,98,111,108,45,110,97,109,101])] (.tup [(inA 1),(boA true)]),Puk 116 [(stA [115,121,109,98,111,108,45,110,97,109,101]),(obA x.ob)] (trA (Tr.ap 18 x nilT nilT)),Puk 118 [(trA (Tr.ap 18 x nilT nilT))] (boA true)]) Tryz.func88 (by kernel_rfl) (by kernel_rfl) ⟨p_rAr18,p_rOne18 hx,(p_rValid (t:=Tr.ap 18 x nilT nilT) (ap_ok hx nil_arg nil_arg 18) (by decide)).b hv,trivial⟩
 | false =>
  rw [kept_f hv]
  exact pwalk (an:=[.av (.tup [inA 1,boA true]),.no,.no,.no,.no,.av (trA (Tr.ap 18 x nilT nilT)),yF]) (ls:=[]) (ps:=[Puk 10 [(syA lispB [115,121,109,98,111,108,45,110,97,109,101])] (.tup [(inA 1),(boA true)]),Puk 116 [(stA [115,121,109,98,111,108,45,110,97,109,101]),(obA x.ob)] (trA (Tr.ap 18 x nilT nilT)),Puk 118 [(trA (Tr.ap 18 x nilT nilT))] (boA false)]) Tryz.func88 (by kernel_rfl) (by kernel_rfl) ⟨p_rAr18,p_rOne18 hx,(p_rValid (t:=Tr.ap 18 x nilT nilT) (ap_ok hx nil_arg nil_arg 18) (by decide)).b hv,trivial⟩
theorem p_rApp19 {x:Tr} (hx:Arg x):Puk 88 [syA lispB [115,121,109,98,111,108,45,112,97,99,107,97,103,101,45,110,97,109,101],rowA [x]] (resT (Tr.kept' (Tr.ap 19 x nilT nilT))):=by
 cases hv:(Tr.ap 19 x nilT nilT).valid with
 | true =>
  rw [kept_t hv]
  exact pwalk (an:=[.av (.tup [inA 1,boA true]),.no,.no,.no,.no,.av (trA (Tr.ap 19 x nilT nilT)),yT]) (ls:=[]) (ps:=[Puk 10 [(syA lispB [115,121,109,98,111,108,45,112,97,99,107,97,103,101,45,110,97,109,101])] (.tup [(inA 1),(boA true)]),Puk 116 [(stA [115,121,109,98,111,108,45,112,97,99,107,97,103,101,45,110,97,109,101]),(obA x.ob)] (trA (Tr.ap 19 x nilT nilT)),Puk 118 [(trA (Tr.ap 19 x nilT nilT))] (boA true)]) Tryz.func88 (by kernel_rfl) (by kernel_rfl) ⟨p_rAr19,p_rOne19 hx,(p_rValid (t:=Tr.ap 19 x nilT nilT) (ap_ok hx nil_arg nil_arg 19) (by decide)).b hv,trivial⟩
 | false =>
  rw [kept_f hv]
  exact pwalk (an:=[.av (.tup [inA 1,boA true]),.no,.no,.no,.no,.av (trA (Tr.ap 19 x nilT nilT)),yF]) (ls:=[]) (ps:=[Puk 10 [(syA lispB [115,121,109,98,111,108,45,112,97,99,107,97,103,101,45,110,97,109,101])] (.tup [(inA 1),(boA true)]),Puk 116 [(stA [115,121,109,98,111,108,45,112,97,99,107,97,103,101,45,110,97,109,101]),(obA x.ob)] (trA (Tr.ap 19 x nilT nilT)),Puk 118 [(trA (Tr.ap 19 x nilT nilT))] (boA false)]) Tryz.func88 (by kernel_rfl) (by kernel_rfl) ⟨p_rAr19,p_rOne19 hx,(p_rValid (t:=Tr.ap 19 x nilT nilT) (ap_ok hx nil_arg nil_arg 19) (by decide)).b hv,trivial⟩
theorem p_rApp20 {x y:Tr} (hx:Arg x) (hy:Arg y):Puk 88 [syA lispB [105,110,116,101,114,110],rowA [x,y]] (resT (Tr.kept' (Tr.ap 20 x y nilT))):=by
 cases hv:(Tr.ap 20 x y nilT).valid with
 | true =>
  rw [kept_t hv]
  exact pwalk (an:=[.av (.tup [inA 2,boA true]),.no,.no,.no,.no,.no,.no,.av (trA (Tr.ap 20 x y nilT)),yT]) (ls:=[]) (ps:=[Puk 10 [(syA lispB [105,110,116,101,114,110])] (.tup [(inA 2),(boA true)]),Puk 117 [(stA [105,110,116,101,114,110]),(obA x.ob),(obA y.ob)] (trA (Tr.ap 20 x y nilT)),Puk 118 [(trA (Tr.ap 20 x y nilT))] (boA true)]) Tryz.func88 (by kernel_rfl) (by kernel_rfl) ⟨p_rAr20,p_rTwo20 hx hy,(p_rValid (t:=Tr.ap 20 x y nilT) (ap_ok hx hy nil_arg 20) (by decide)).b hv,trivial⟩
 | false =>
  rw [kept_f hv]
  exact pwalk (an:=[.av (.tup [inA 2,boA true]),.no,.no,.no,.no,.no,.no,.av (trA (Tr.ap 20 x y nilT)),yF]) (ls:=[]) (ps:=[Puk 10 [(syA lispB [105,110,116,101,114,110])] (.tup [(inA 2),(boA true)]),Puk 117 [(stA [105,110,116,101,114,110]),(obA x.ob),(obA y.ob)] (trA (Tr.ap 20 x y nilT)),Puk 118 [(trA (Tr.ap 20 x y nilT))] (boA false)]) Tryz.func88 (by kernel_rfl) (by kernel_rfl) ⟨p_rAr20,p_rTwo20 hx hy,(p_rValid (t:=Tr.ap 20 x y nilT) (ap_ok hx hy nil_arg 20) (by decide)).b hv,trivial⟩
theorem p_rApp21 {x y:Tr} (hx:Arg x) (hy:Arg y):Puk 88 [syA lispB [115,116,114,105,110,103,45,97,112,112,101,110,100],rowA [x,y]] (resT (Tr.kept' (Tr.ap 21 x y nilT))):=by
 cases hv:(Tr.ap 21 x y nilT).valid with
 | true =>
  rw [kept_t hv]
  exact pwalk (an:=[.av (.tup [inA 2,boA true]),.no,.no,.no,.no,.no,.no,.av (trA (Tr.ap 21 x y nilT)),yT]) (ls:=[]) (ps:=[Puk 10 [(syA lispB [115,116,114,105,110,103,45,97,112,112,101,110,100])] (.tup [(inA 2),(boA true)]),Puk 117 [(stA [115,116,114,105,110,103,45,97,112,112,101,110,100]),(obA x.ob),(obA y.ob)] (trA (Tr.ap 21 x y nilT)),Puk 118 [(trA (Tr.ap 21 x y nilT))] (boA true)]) Tryz.func88 (by kernel_rfl) (by kernel_rfl) ⟨p_rAr21,p_rTwo21 hx hy,(p_rValid (t:=Tr.ap 21 x y nilT) (ap_ok hx hy nil_arg 21) (by decide)).b hv,trivial⟩
 | false =>
  rw [kept_f hv]
  exact pwalk (an:=[.av (.tup [inA 2,boA true]),.no,.no,.no,.no,.no,.no,.av (trA (Tr.ap 21 x y nilT)),yF]) (ls:=[]) (ps:=[Puk 10 [(syA lispB [115,116,114,105,110,103,45,97,112,112,101,110,100])] (.tup [(inA 2),(boA true)]),Puk 117 [(stA [115,116,114,105,110,103,45,97,112,112,101,110,100]),(obA x.ob),(obA y.ob)] (trA (Tr.ap 21 x y nilT)),Puk 118 [(trA (Tr.ap 21 x y nilT))] (boA false)]) Tryz.func88 (by kernel_rfl) (by kernel_rfl) ⟨p_rAr21,p_rTwo21 hx hy,(p_rValid (t:=Tr.ap 21 x y nilT) (ap_ok hx hy nil_arg 21) (by decide)).b hv,trivial⟩
theorem p_rApp22 {x:Tr} (hx:Arg x):Puk 88 [syA lispB [115,116,114,105,110,103,45,108,101,110,103,116,104],rowA [x]] (resT (Tr.kept' (Tr.ap 22 x nilT nilT))):=by
 cases hv:(Tr.ap 22 x nilT nilT).valid with
 | true =>
  rw [kept_t hv]
  exact pwalk (an:=[.av (.tup [inA 1,boA true]),.no,.no,.no,.no,.av (trA (Tr.ap 22 x nilT nilT)),yT]) (ls:=[]) (ps:=[Puk 10 [(syA lispB [115,116,114,105,110,103,45,108,101,110,103,116,104])] (.tup [(inA 1),(boA true)]),Puk 116 [(stA [115,116,114,105,110,103,45,108,101,110,103,116,104]),(obA x.ob)] (trA (Tr.ap 22 x nilT nilT)),Puk 118 [(trA (Tr.ap 22 x nilT nilT))] (boA true)]) Tryz.func88 (by kernel_rfl) (by kernel_rfl) ⟨p_rAr22,p_rOne22 hx,(p_rValid (t:=Tr.ap 22 x nilT nilT) (ap_ok hx nil_arg nil_arg 22) (by decide)).b hv,trivial⟩
 | false =>
  rw [kept_f hv]
  exact pwalk (an:=[.av (.tup [inA 1,boA true]),.no,.no,.no,.no,.av (trA (Tr.ap 22 x nilT nilT)),yF]) (ls:=[]) (ps:=[Puk 10 [(syA lispB [115,116,114,105,110,103,45,108,101,110,103,116,104])] (.tup [(inA 1),(boA true)]),Puk 116 [(stA [115,116,114,105,110,103,45,108,101,110,103,116,104]),(obA x.ob)] (trA (Tr.ap 22 x nilT nilT)),Puk 118 [(trA (Tr.ap 22 x nilT nilT))] (boA false)]) Tryz.func88 (by kernel_rfl) (by kernel_rfl) ⟨p_rAr22,p_rOne22 hx,(p_rValid (t:=Tr.ap 22 x nilT nilT) (ap_ok hx nil_arg nil_arg 22) (by decide)).b hv,trivial⟩
theorem p_rApp23 {x y:Tr} (hx:Arg x) (hy:Arg y):Puk 88 [syA lispB [115,116,114,105,110,103,45,98,121,116,101],rowA [x,y]] (resT (Tr.kept' (Tr.ap 23 x y nilT))):=by
 cases hv:(Tr.ap 23 x y nilT).valid with
 | true =>
  rw [kept_t hv]
  exact pwalk (an:=[.av (.tup [inA 2,boA true]),.no,.no,.no,.no,.no,.no,.av (trA (Tr.ap 23 x y nilT)),yT]) (ls:=[]) (ps:=[Puk 10 [(syA lispB [115,116,114,105,110,103,45,98,121,116,101])] (.tup [(inA 2),(boA true)]),Puk 117 [(stA [115,116,114,105,110,103,45,98,121,116,101]),(obA x.ob),(obA y.ob)] (trA (Tr.ap 23 x y nilT)),Puk 118 [(trA (Tr.ap 23 x y nilT))] (boA true)]) Tryz.func88 (by kernel_rfl) (by kernel_rfl) ⟨p_rAr23,p_rTwo23 hx hy,(p_rValid (t:=Tr.ap 23 x y nilT) (ap_ok hx hy nil_arg 23) (by decide)).b hv,trivial⟩
 | false =>
  rw [kept_f hv]
  exact pwalk (an:=[.av (.tup [inA 2,boA true]),.no,.no,.no,.no,.no,.no,.av (trA (Tr.ap 23 x y nilT)),yF]) (ls:=[]) (ps:=[Puk 10 [(syA lispB [115,116,114,105,110,103,45,98,121,116,101])] (.tup [(inA 2),(boA true)]),Puk 117 [(stA [115,116,114,105,110,103,45,98,121,116,101]),(obA x.ob),(obA y.ob)] (trA (Tr.ap 23 x y nilT)),Puk 118 [(trA (Tr.ap 23 x y nilT))] (boA false)]) Tryz.func88 (by kernel_rfl) (by kernel_rfl) ⟨p_rAr23,p_rTwo23 hx hy,(p_rValid (t:=Tr.ap 23 x y nilT) (ap_ok hx hy nil_arg 23) (by decide)).b hv,trivial⟩
theorem p_rApp24 {x:Tr} (hx:Arg x):Puk 88 [syA lispB [98,121,116,101,45,115,116,114,105,110,103],rowA [x]] (resT (Tr.kept' (Tr.ap 24 x nilT nilT))):=by
 cases hv:(Tr.ap 24 x nilT nilT).valid with
 | true =>
  rw [kept_t hv]
  exact pwalk (an:=[.av (.tup [inA 1,boA true]),.no,.no,.no,.no,.av (trA (Tr.ap 24 x nilT nilT)),yT]) (ls:=[]) (ps:=[Puk 10 [(syA lispB [98,121,116,101,45,115,116,114,105,110,103])] (.tup [(inA 1),(boA true)]),Puk 116 [(stA [98,121,116,101,45,115,116,114,105,110,103]),(obA x.ob)] (trA (Tr.ap 24 x nilT nilT)),Puk 118 [(trA (Tr.ap 24 x nilT nilT))] (boA true)]) Tryz.func88 (by kernel_rfl) (by kernel_rfl) ⟨p_rAr24,p_rOne24 hx,(p_rValid (t:=Tr.ap 24 x nilT nilT) (ap_ok hx nil_arg nil_arg 24) (by decide)).b hv,trivial⟩
 | false =>
  rw [kept_f hv]
  exact pwalk (an:=[.av (.tup [inA 1,boA true]),.no,.no,.no,.no,.av (trA (Tr.ap 24 x nilT nilT)),yF]) (ls:=[]) (ps:=[Puk 10 [(syA lispB [98,121,116,101,45,115,116,114,105,110,103])] (.tup [(inA 1),(boA true)]),Puk 116 [(stA [98,121,116,101,45,115,116,114,105,110,103]),(obA x.ob)] (trA (Tr.ap 24 x nilT nilT)),Puk 118 [(trA (Tr.ap 24 x nilT nilT))] (boA false)]) Tryz.func88 (by kernel_rfl) (by kernel_rfl) ⟨p_rAr24,p_rOne24 hx,(p_rValid (t:=Tr.ap 24 x nilT nilT) (ap_ok hx nil_arg nil_arg 24) (by decide)).b hv,trivial⟩
end Go.Proofs.YthhknjlmjefklaaGreatDoor
