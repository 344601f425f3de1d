/- Terms: constants, calls of functions, what a call is. -/
import Derived.Test.YtbpmpdadppamgaaGreatDoorGM
namespace Go.Proofs.YtbpmpdadppamgaaGreatDoor
open Go.Proofs.Tryz
open Go.RowKit
theorem YJ:(prog).fieldsOf 42=#[⟨"Package", 9,0,false, "", "", 0⟩,⟨"Name", 9,1,false, "", "", 16⟩]:=by kernel_rfl
theorem Oq:prog.underlying 42=some (.struct (prog.fieldsOf 42)):=by kernel_rfl
theorem syH:prog.stoodInHeld 42=false:=by kernel_rfl
theorem syG:prog.eqGuardType prog.depth 42=false:=by kernel_rfl
theorem Ea(p s:lw)(w:World):(part 9 #[str p,str s] 0).run prog w=.ok (str p) w∧(part 9 #[str p,str s] 1).run prog w=.ok (str s) w:=by
 constructor <;> simp[part]
theorem Da{p s p' s':lw}(w:World):(Op.equalIn 10000 42 (.agg #[str p,str s]) (.agg #[str p',str s'])).run prog w=.ok (decide (p=p') && decide (s=s')) w:=by
 rw[run_equalIn_agg w 9999 _ _ _ Oq syH,YJ];have e1:=run_equalIn_string (P:=prog) w 9998 9 ⟨p.toArray⟩ ⟨p'.toArray⟩ Tryz.underlying9;have e2:=run_equalIn_string (P:=prog) w 9998 9 ⟨s.toArray⟩ ⟨s'.toArray⟩ Tryz.underlying9;rw[Qf,Qf,xI]at e1 e2;simp only[Op.eqFields,lc,(Ea p s w).1,(Ea p s w).2,(Ea p' s' w).1,(Ea p' s' w).2,Result.andThen_ok,e1,e2,ne_eq,Sem.run_ite,d9];cases decide (p=p') <;> cases decide (s=s') <;> simp
theorem ae{x y:Operand}{p s p' s':lw}{r:Bool}(h:(decide (p=p') && decide (s=s'))=r):bg prog .eql 42 x y (.agg #[str p,str s]) (.agg #[str p',str s']) (.bool r):=by
 intro w;rw[←h];simp only[lc,run_eqGuard_agg w .eql _ x y _ _ syG,Result.andThen_ok,run_eql_struct,Da]
theorem E5{P:Program}{t:TypeId}{x y:Operand}{k:IntKind}{a b:Int}{r:Bool}(h:decide (a=b)=!r):bg P .neq t x y (.int k a) (.int k b) (.bool r):=by
 refine iT ?_;simp only[je,decide_true];show some (Value.bool (!(a == b)))=_;rw[xI a b,h,Bool.not_not]
abbrev p8(p n:lw):AV:=.agg [stA p,stA n]
theorem RS(o:Ob):j5 88 [o7 o] (o6 (Te.H9 o)):=pV [] [] func88 trivial
theorem ku(o:Ob):j5 51 [o7 o] (o6 (Te.H9 o)):=pV [] [] func51 trivial
theorem VG(p n:lw):j5 121 [p8 p n] (o7 ⟨2,[],[],p,n,[],[]⟩):=pV [] [] func121 trivial
theorem zo(p n:lw):j5 76 [p8 p n] (o7 ⟨2,[],[],p,n,[],[]⟩):=pV [] [] func76 trivial
theorem b0c:j5 90 [] (o7 K8):=pV [.av (o7 K8)] [j5 121 [(p8 [108,105,115,112] [110,105,108])] (o7 K8)] func90 ⟨VG _ _,Z⟩
theorem b5n:j5 89 [] (o7 tO):=pV [.av (o7 tO)] [j5 121 [(p8 [108,105,115,112] [116])] (o7 tO)] func89 ⟨VG _ _,Z⟩
theorem Q8(n:lw):j5 34 [stA n] (p8 o9 n):=pV [] [] func34 trivial
theorem lY:j5 40 [] (o7 K8):=pV [.av (p8 o9 [110,105,108]),.av (o7 K8)] [j5 34 [(stA [110,105,108])] (p8 o9 [110,105,108]),j5 76 [(p8 o9 [110,105,108])] (o7 K8)] func40 ⟨Q8 _,zo _ _,Z⟩
theorem tH:j5 52 [] (o7 tO):=pV [.av (p8 o9 [116]),.av (o7 tO)] [j5 34 [(stA [116])] (p8 o9 [116]),j5 76 [(p8 o9 [116])] (o7 tO)] func52 ⟨Q8 _,zo _ _,Z⟩
theorem ko(b:Bool):j5 46 [l5 b] (o6 (bif b then Te.r9 else Te.noT)):=by
 cases b with
 |true=>exact pV [.av (o7 tO),.av (o6 Te.r9)] [_,j5 88 [(o7 tO)] (.agg [(j4 2),(stA Te.r9.np),(stA Te.r9.nn),(j4 2),(stA Te.r9.val.num),(stA Te.r9.val.den),(stA Te.r9.val.sp),(stA Te.r9.val.sn),(stA Te.r9.val.text),(.dt (.row (List.map Ob.enc Te.r9.val.pair))),(.dt (.row (List.map Te.enc Te.r9.args)))])] func46 ⟨b5n,RS _,Z⟩
 |false=>exact pV [.av (o7 K8),.av (o6 Te.noT)] [_,j5 88 [(o7 K8)] (.agg [(j4 2),(stA Te.noT.np),(stA Te.noT.nn),(j4 2),(stA Te.noT.val.num),(stA Te.noT.val.den),(stA Te.noT.val.sp),(stA Te.noT.val.sn),(stA Te.noT.val.text),(.dt (.row (List.map Ob.enc Te.noT.val.pair))),(.dt (.row (List.map Te.enc Te.noT.args)))])] func46 ⟨b0c,RS _,Z⟩
abbrev qK(p n:lw)(rs:aa0):AV:=.agg [j4 3,stA p,stA n,j4 0,stA [],stA [],stA [],stA [],stA [],.dt (.row []),.dt (.row rs)]
theorem b0d(p n:lw)(rs:aa0):j5 91 [p8 p n,.dt (.row rs)] (qK p n rs):=pV [] [] func91 trivial
theorem DV(p n:lw)(rs:aa0):j5 58 [p8 p n,.dt (.row rs)] (qK p n rs):=pV [] [] func58 trivial
theorem a4P(n:lw)(rs:aa0):j5 47 [stA n,.dt (.row rs)] (qK o9 n rs):=pV [.av (qK o9 n rs)] [j5 91 [(p8 [108,105,115,112] n),(.dt (.row rs))] (.agg [(j4 3),(stA o9),(stA n),(j4 0),(stA []),(stA []),(stA []),(stA []),(stA []),(.dt (.row [])),(.dt (.row rs))])] func47 ⟨b0d _ _ _,Z⟩
theorem a4Q(n:lw)(rs:aa0):j5 27 [stA n,.dt (.row rs)] (qK o9 n rs):=pV [.av (p8 o9 n),.av (qK o9 n rs)] [j5 34 [(stA n)] (p8 o9 n),j5 58 [(p8 o9 n),(.dt (.row rs))] (.agg [(j4 3),(stA o9),(stA n),(j4 0),(stA []),(stA []),(stA []),(stA []),(stA []),(.dt (.row [])),(.dt (.row rs))])] func27 ⟨Q8 n,DV _ _ _,Z⟩
theorem JI(n:lw)(l:List Te){rs:aa0}(h:rs=l.map Te.enc):j5 47 [stA n,.dt (.row rs)] (o6 (Te.ap n l)):=by subst h;exact a4P _ _
theorem JJ(n:lw)(l:List Te){rs:aa0}(h:rs=l.map Te.enc):j5 27 [stA n,.dt (.row rs)] (o6 (Te.ap n l)):=by subst h;exact a4Q _ _
theorem RU(o:Ob):j5 45 [o7 o] (l5 (decide (o.kind=2∧o.sp=o9∧o.sn=R8))) :=
 nR (Q3 func45 rfl (by kernel_rfl)) fun _ A n c w _ _=>PR o A n c w
theorem a4R{o:Ob}(h:o.Wf):j5 21 [o7 o] (l5 (U1 o K8)) :=
 ⟨Q3 func21 rfl (by kernel_rfl),fun ok w vs _ hv=>by
  obtain⟨A,n,c,rfl,hr⟩:=hv.vO;exact (PW ok o h A n c w hr).mono fun _ _ h=>h.pure⟩
theorem b0e{a:Ob}(h:a.Wf)(b:Ob):j5 104 [o7 a,o7 b] (l5 (U1 a b)) :=
 ⟨Q3 func104 rfl (by kernel_rfl),fun ok w vs _ hv=>by
  obtain⟨A,n,c,A',n',c',rfl,hr,hr'⟩:=hv.si;exact (PS ok ok a.size a b (PP _) h A A' n n' c c' w hr hr').mono fun _ _ h=>h.pure⟩
theorem VH{a:Ob}(h:a.Wf)(b:Ob):j5 49 [o7 a,o7 b] (l5 (U1 a b)) :=
 ⟨Q3 func49 rfl (by kernel_rfl),fun ok w vs _ hv=>by
  obtain⟨A,n,c,A',n',c',rfl,hr,hr'⟩:=hv.si;exact (Ir ok ok a.size a b (PP _) h A A' n n' c c' w hr hr').mono fun _ _ h=>h.pure⟩
theorem isD{t:Te}{n:lw}{k:Nat}:decide (t.is n k)=(decide (t.kind=3) && (decide (t.np=o9) && decide (t.nn=n) && decide (t.args.length=k))):=by
 show decide (_∧_∧_∧_)=_;simp[Bool.and_assoc]
theorem aQ(t:Te)(n:lw)(k:Nat):j5 61 [o6 t,stA n,j4 k] (l5 (decide (t.is n k))):=by
 rw[isD];cases hk:decide (t.kind=3) with
 |false=>exact pV [yF] [Bk .eql 3 8 3 t.kind bF] func61 ⟨C9 hk,Z⟩
 |true =>
  cases hs:decide (t.np=o9) && decide (t.nn=n) with
  |false=>exact pV [yT,yF] [Bk .eql 3 8 3 t.kind bT,Bn .eql 42 (.tmp 12) (.tmp 14) (Value.agg #[str t.np,str t.nn]) (Value.agg #[Value.string { data:=#[108,105,115,112]:ByteArray },str n]) bF] func61 ⟨C9 hk,ae hs,Z⟩
  |true=>exact pV [yT,yT,.av (j4 t.args.length),.av (l5 (decide (t.args.length=k)))] [Bk .eql 3 8 3 t.kind bT,Bn .eql 42 (.tmp 12) (.tmp 14) (Value.agg #[str t.np,str t.nn]) (Value.agg #[Value.string { data:=#[108,105,115,112]:ByteArray },str n]) bT,(vi ↑t.args.length)=(vi (↑(List.map Te.enc t.args).length)),Bt .eql 3 20 21 ↑t.args.length ↑k (Value.bool (decide (t.args.length=k)))] func61 ⟨C9 hk,ae hs,F9 _,C9 (by rw[Zab];omega),Z⟩
theorem b2K(t:Te)(n:lw)(k:Nat):j5 96 [o6 t,stA n,j4 k] (l5 (decide (t.is n k))):=by
 rw[isD];cases hk:decide (t.kind=3) with
 |false=>exact pV [yF] [Bk .eql 3 8 3 t.kind bF] func96 ⟨C9 hk,Z⟩
 |true =>
  cases hs:decide (t.np=o9) && decide (t.nn=n) with
  |false=>exact pV [yT,.av (p8 o9 n),yF] [Bk .eql 3 8 3 t.kind bT,j5 34 [(stA n)] (p8 o9 n),Bn .eql 42 (.tmp 12) (.tmp 14) (Value.agg #[str t.np,str t.nn]) (Value.agg #[str o9,str n]) bF] func96 ⟨C9 hk,Q8 n,ae hs,Z⟩
  |true=>exact pV [yT,.av (p8 o9 n),yT,.av (j4 t.args.length),.av (l5 (decide (t.args.length=k)))] [Bk .eql 3 8 3 t.kind bT,j5 34 [(stA n)] (p8 o9 n),Bn .eql 42 (.tmp 12) (.tmp 14) (Value.agg #[str t.np,str t.nn]) (Value.agg #[str o9,str n]) bT,(vi ↑t.args.length)=(vi (↑(List.map Te.enc t.args).length)),Bt .eql 3 20 21 ↑t.args.length ↑k (Value.bool (decide (t.args.length=k)))] func96 ⟨C9 hk,Q8 n,ae hs,F9 _,C9 (by rw[Zab];omega),Z⟩
namespace Te
theorem Wf.val{t:Te}(h:t.Wf):t.val.Wf:=by cases h with | mk _ hv hl hx=>exact hv
theorem Wf.len{t:Te}(h:t.Wf):t.args.length≤9223372036854775807:=by cases h with | mk _ hv hl hx=>exact hl
theorem Wf.kids{t x:Te}(h:t.Wf)(hx:x∈t.args):x.Wf:=by cases h with | mk _ hv hl hh=>exact hh x hx
theorem QP{x y:Te}{a b:List Te}:U1 (x::a) (y::b)=(U1 x y && U1 a b):=by
 unfold U1;by_cases h1:x=y <;> by_cases h2:a=b <;> simp[h1,h2]
theorem same_iff{a b:Te}:U1 a b=(decide (a.kind=b.kind) && (decide (a.np=b.np) && decide (a.nn=b.nn)) && U1 a.val b.val && U1 a.args b.args):=by
 obtain⟨k,p,n,o,l⟩:=a;obtain⟨k',p',n',o',l'⟩:=b;unfold U1;rw[Bool.eq_iff_iff];simp[and_assoc]
end Te
abbrev fEq:AV:=.au 62 []
abbrev qW(a b:List Te)(i:Int):AS:=⟨stt 32 [(1,C8 b),(2,fEq),(15,C8 a),(16,j4 a.length),(17,j4 i)],[]⟩
abbrev Gi(b:Bool):AS:=⟨stt 32 [(6,l5 b)],[]⟩
abbrev Gj:AS:=⟨stt 32 [],[]⟩
noncomputable abbrev Bw:Code:=M6 (O4 f105) [1,1,0,1,0,0]
theorem YK{a b:List Te}{x y:Te}{i:Nat}(hx:a[i]?=some x)(hy:b[i]?=some y)(hl:a.length≤9223372036854775807)(h:j5 62 [o6 x,o6 y] (l5 true)):y7 EX Bw (qW a b i) .F6 (qW a b ((i+1:Nat):Int)) :=
 tW [yT,.av (.pin ((o8 x).map .dt)),.av (.pin ((o8 y).map .dt)),yT,.av (j4 ((i+1:Nat):Int))] [] [1,2,15,16,17] 0 [Bt .lss 3 17 16 ↑i ↑a.length bT,z8 (List.map Te.enc a) ↑i 11 (o8 x),z8 (List.map Te.enc b) ↑i 11 (o8 y),j5 62 [(o6 x),(o6 y)] (l5 true),Bk .add 3 17 1 ↑i (vi (↑(i+1)))]     ⟨D8 (Pi (by have:=(UV.1 hx).1;omega)),M5 hx,M5 hy,h,H6 J J (by have:=(UV.1 hx).1;omega),Z⟩
theorem b5o{a b:List Te}{i:Nat}(hi:i=a.length):y7 EX Bw (qW a b i) (.out 0) Gj :=
 tW [yF] [] [] 0 [Bt .lss 3 17 16 ↑i ↑a.length bF]     ⟨D8 (WF J),Z⟩
theorem b5p{a b:List Te}{x y:Te}{i:Nat}(hx:a[i]?=some x)(hy:b[i]?=some y)(h:j5 62 [o6 x,o6 y] (l5 false)):y7 EX Bw (qW a b i) .ret (Gi false) :=
 tW [yT,.av (.pin ((o8 x).map .dt)),.av (.pin ((o8 y).map .dt)),yF] [] [6] 0 [Bt .lss 3 17 16 ↑i ↑a.length bT,z8 (List.map Te.enc a) ↑i 11 (o8 x),z8 (List.map Te.enc b) ↑i 11 (o8 y),j5 62 [(o6 x),(o6 y)] (l5 false)]     ⟨D8 (Pi (by have:=(UV.1 hx).1;omega)),M5 hx,M5 hy,h,Z⟩
theorem a4S{a b:List Te}(hl:a.length≤9223372036854775807)(h:∀x∈a,∀y,j5 62 [o6 x,o6 y] (l5 (U1 x y))):j5 105 [C8 a,C8 b,fEq] (l5 (U1 a b)):=by
 by_cases hne:a.length=b.length
 ·have loop:∀(s s':List Te) (i:Nat),a.drop i=s→b.drop i=s'→i≤a.length→(U1 s s'=true→I7 EX Bw (qW a b i) (.out 0) Gj)∧(U1 s s'=false→I7 EX Bw (qW a b i) .ret (Gi false)):=by
   intro s
   induction s with
   |nil =>
    intro s' i hd hd' hi;have e1:=congrArg List.length hd;rw[ut,List.length_nil]at e1;have e2:=congrArg List.length hd';rw[ut]at e2;obtain rfl:s'=[]:=q9 J;exact⟨fun _=>.stop (b5o J) (fun h=>by cases h),fun h=>by simp at h⟩
   |cons x s ih =>
    intro s' i hd hd' hi;have hx:a[i]?=some x:=by rw[←Za1,hd];rfl
    have hlt:=(UV.1 hx).1;cases s' with
    |nil =>
     have e2:=congrArg List.length hd';rw[ut,List.length_nil]at e2;omega
    |cons y s' =>
     have hy:b[i]?=some y:=by rw[←Za1,hd'];rfl
     have hc:=h x (q8 hx) y;obtain⟨k1,k2⟩:=ih s' (i+1) (by rw[←Za0,hd];rfl) (by rw[←Za0,hd'];rfl) J;rw[Te.QP];cases hxy:U1 x y with
     |true =>
      rw[hxy]at hc;rw[Bool.true_and];exact⟨fun e=>.more (YK hx hy hl hc) (k1 e),fun e=>.more (YK hx hy hl hc) (k2 e)⟩
     |false =>
      rw[hxy]at hc;exact⟨fun e=>by simp at e,fun _=>.stop (b5p hx hy hc) (fun h=>by cases h)⟩
  obtain⟨k1,k2⟩:=loop a b 0 rfl rfl (Ci _);cases hab:U1 a b with
  |true=>exact pW [.av (j4 a.length),.av (j4 b.length),yF,.av (j4 a.length)] [.inv [1,2,15,16,17] 0 (.out 0) (Gj)] [(vi ↑a.length)=(vi (↑(List.map Te.enc a).length)),(vi ↑b.length)=(vi (↑(List.map Te.enc b).length)),Bt .neq 3 11 13 ↑a.length ↑b.length bF,(vi ↑a.length)=(vi (↑(List.map Te.enc a).length)),y7 EX (.loop (M6 (O4 f105) [1,1,0,1,0,0])) (qW a b 0) (.out 0) (Gj)] func105 ⟨F9 _,F9 _,E5 (by simp[hne]),F9 _,(k1 hab).I8,Z⟩
  |false=>exact pW [.av (j4 a.length),.av (j4 b.length),yF,.av (j4 a.length)] [.inv [1,2,15,16,17] 0 (.ret) (Gi false)] [(vi ↑a.length)=(vi (↑(List.map Te.enc a).length)),(vi ↑b.length)=(vi (↑(List.map Te.enc b).length)),Bt .neq 3 11 13 ↑a.length ↑b.length bF,(vi ↑a.length)=(vi (↑(List.map Te.enc a).length)),y7 EX (.loop (M6 (O4 f105) [1,1,0,1,0,0])) (qW a b 0) (.ret) (Gi false)] func105 ⟨F9 _,F9 _,E5 (by simp[hne]),F9 _,(k2 hab).I8,Z⟩
 ·have e:U1 a b=false:=WF fun e=>hne (congrArg List.length e)
  rw[e];exact pV [.av (j4 a.length),.av (j4 b.length),yT] [(vi ↑a.length)=(vi (↑(List.map Te.enc a).length)),(vi ↑b.length)=(vi (↑(List.map Te.enc b).length)),Bt .neq 3 11 13 ↑a.length ↑b.length bT] func105 ⟨F9 _,F9 _,E5 (by simp;omega),Z⟩
theorem b2L:∀(N:Nat) (a b:Te),a.size≤N→a.Wf→j5 62 [o6 a,o6 b] (l5 (U1 a b)):=by
 intro N
 induction N with
 |zero=>intro a b h;have:=Te.size_pos a;omega
 |succ N ih =>
  intro a b hN hw;rw[Te.same_iff];cases hk:decide (a.kind=b.kind) with
  |false=>exact pV [yF] [Bt .eql 3 6 8 a.kind b.kind bF] func62 ⟨C9 hk,Z⟩
  |true =>
   cases hs:decide (a.np=b.np) && decide (a.nn=b.nn) with
   |false=>exact pV [yT,yF] [Bt .eql 3 6 8 a.kind b.kind bT,Bn .eql 42 (.tmp 12) (.tmp 14) (Value.agg #[str a.np,str a.nn]) (Value.agg #[str b.np,str b.nn]) bF] func62 ⟨C9 hk,ae hs,Z⟩
   |true =>
    have h1:=b0e hw.val b.val;cases hv:U1 a.val b.val with
    |false =>
     rw[hv]at h1;exact pV [yT,yT,yF] [Bt .eql 3 6 8 a.kind b.kind bT,Bn .eql 42 (.tmp 12) (.tmp 14) (Value.agg #[str a.np,str a.nn]) (Value.agg #[str b.np,str b.nn]) bT,_] func62 ⟨C9 hk,ae hs,h1,Z⟩
    |true =>
     rw[hv]at h1;exact pV [yT,yT,yT,.av (l5 (U1 a.args b.args))] [Bt .eql 3 6 8 a.kind b.kind bT,Bn .eql 42 (.tmp 12) (.tmp 14) (Value.agg #[str a.np,str a.nn]) (Value.agg #[str b.np,str b.nn]) bT,_,j5 105 [(.dt (.row (List.map Te.enc a.args))),(.dt (.row (List.map Te.enc b.args))),(.au 62 [])] (l5 (U1 a.args b.args))] func62 ⟨C9 hk,ae hs,h1,a4S hw.len fun x hx y=>ih x y (by have:=Te.ym hx;omega) (hw.kids hx),Z⟩
theorem zz{a:Te}(h:a.Wf)(b:Te):j5 62 [o6 a,o6 b] (l5 (U1 a b)):=b2L _ a b (PP _) h
abbrev qX(a b:List Te)(i:Int):AS:=⟨stt 27 [(0,C8 a),(1,C8 b),(5,j4 i)],[]⟩
abbrev Gl(b:Bool):AS:=⟨stt 27 [(4,l5 b)],[]⟩
abbrev Gm:AS:=⟨stt 27 [],[]⟩
noncomputable abbrev Bz:Code:=M6 (O4 f50) [1,1,0,1,0,0]
theorem YL{a b:List Te}{x y:Te}{i:Nat}(hx:a[i]?=some x)(hy:b[i]?=some y)(hl:a.length≤9223372036854775807)(h:j5 19 [o6 x,o6 y] (l5 true)):y7 EX Bz (qX a b i) .F6 (qX a b ((i+1:Nat):Int)) :=
 tW [.av (j4 a.length),yT,.av (.pin ((o8 x).map .dt)),.av (.pin ((o8 y).map .dt)),yT,.av (j4 ((i+1:Nat):Int))] [] [0,1,5] 0 [(vi ↑a.length)=(vi (↑(List.map Te.enc a).length)),Bt .lss 3 11 13 ↑i ↑a.length bT,z8 (List.map Te.enc a) ↑i 11 (o8 x),z8 (List.map Te.enc b) ↑i 11 (o8 y),j5 19 [(o6 x),(o6 y)] (l5 true),Bk .add 3 15 1 ↑i (vi (↑(i+1)))]     ⟨F9 _,D8 (Pi (by have:=(UV.1 hx).1;omega)),M5 hx,M5 hy,h,H6 J J (by have:=(UV.1 hx).1;omega),Z⟩
theorem b5q{a b:List Te}{i:Nat}(hi:i=a.length):y7 EX Bz (qX a b i) (.out 0) Gm :=
 tW [.av (j4 a.length),yF] [] [] 0 [(vi ↑a.length)=(vi (↑(List.map Te.enc a).length)),Bt .lss 3 11 13 ↑i ↑a.length bF]     ⟨F9 _,D8 (WF J),Z⟩
theorem b5r{a b:List Te}{x y:Te}{i:Nat}(hx:a[i]?=some x)(hy:b[i]?=some y)(h:j5 19 [o6 x,o6 y] (l5 false)):y7 EX Bz (qX a b i) .ret (Gl false) :=
 tW [.av (j4 a.length),yT,.av (.pin ((o8 x).map .dt)),.av (.pin ((o8 y).map .dt)),yF] [] [4] 0 [(vi ↑a.length)=(vi (↑(List.map Te.enc a).length)),Bt .lss 3 11 13 ↑i ↑a.length bT,z8 (List.map Te.enc a) ↑i 11 (o8 x),z8 (List.map Te.enc b) ↑i 11 (o8 y),j5 19 [(o6 x),(o6 y)] (l5 false)]     ⟨F9 _,D8 (Pi (by have:=(UV.1 hx).1;omega)),M5 hx,M5 hy,h,Z⟩
theorem a4T{a b:List Te}(hl:a.length≤9223372036854775807)(h:∀x∈a,∀y,j5 19 [o6 x,o6 y] (l5 (U1 x y))):j5 50 [C8 a,C8 b] (l5 (U1 a b)):=by
 by_cases hne:a.length=b.length
 ·have loop:∀(s s':List Te) (i:Nat),a.drop i=s→b.drop i=s'→i≤a.length→(U1 s s'=true→I7 EX Bz (qX a b i) (.out 0) Gm)∧(U1 s s'=false→I7 EX Bz (qX a b i) .ret (Gl false)):=by
   intro s
   induction s with
   |nil =>
    intro s' i hd hd' hi;have e1:=congrArg List.length hd;rw[ut,List.length_nil]at e1;have e2:=congrArg List.length hd';rw[ut]at e2;obtain rfl:s'=[]:=q9 J;exact⟨fun _=>.stop (b5q J) (fun h=>by cases h),fun h=>by simp at h⟩
   |cons x s ih =>
    intro s' i hd hd' hi;have hx:a[i]?=some x:=by rw[←Za1,hd];rfl
    have hlt:=(UV.1 hx).1;cases s' with
    |nil =>
     have e2:=congrArg List.length hd';rw[ut,List.length_nil]at e2;omega
    |cons y s' =>
     have hy:b[i]?=some y:=by rw[←Za1,hd'];rfl
     have hc:=h x (q8 hx) y;obtain⟨k1,k2⟩:=ih s' (i+1) (by rw[←Za0,hd];rfl) (by rw[←Za0,hd'];rfl) J;rw[Te.QP];cases hxy:U1 x y with
     |true =>
      rw[hxy]at hc;rw[Bool.true_and];exact⟨fun e=>.more (YL hx hy hl hc) (k1 e),fun e=>.more (YL hx hy hl hc) (k2 e)⟩
     |false =>
      rw[hxy]at hc;exact⟨fun e=>by simp at e,fun _=>.stop (b5r hx hy hc) (fun h=>by cases h)⟩
  obtain⟨k1,k2⟩:=loop a b 0 rfl rfl (Ci _);cases hab:U1 a b with
  |true=>exact pW [.av (j4 a.length),.av (j4 b.length),yF] [.inv [0,1,5] 0 (.out 0) (Gm)] [(vi ↑a.length)=(vi (↑(List.map Te.enc a).length)),(vi ↑b.length)=(vi (↑(List.map Te.enc b).length)),Bt .neq 3 7 9 ↑a.length ↑b.length bF,y7 EX (.loop (M6 (O4 f50) [1,1,0,1,0,0])) (qX a b 0) (.out 0) (Gm)] func50 ⟨F9 _,F9 _,E5 (by simp[hne]),(k1 hab).I8,Z⟩
  |false=>exact pW [.av (j4 a.length),.av (j4 b.length),yF] [.inv [0,1,5] 0 (.ret) (Gl false)] [(vi ↑a.length)=(vi (↑(List.map Te.enc a).length)),(vi ↑b.length)=(vi (↑(List.map Te.enc b).length)),Bt .neq 3 7 9 ↑a.length ↑b.length bF,y7 EX (.loop (M6 (O4 f50) [1,1,0,1,0,0])) (qX a b 0) (.ret) (Gl false)] func50 ⟨F9 _,F9 _,E5 (by simp[hne]),(k2 hab).I8,Z⟩
 ·have e:U1 a b=false:=WF fun e=>hne (congrArg List.length e)
  rw[e];exact pV [.av (j4 a.length),.av (j4 b.length),yT] [(vi ↑a.length)=(vi (↑(List.map Te.enc a).length)),(vi ↑b.length)=(vi (↑(List.map Te.enc b).length)),Bt .neq 3 7 9 ↑a.length ↑b.length bT] func50 ⟨F9 _,F9 _,E5 (by simp;omega),Z⟩
theorem b0f:∀(N:Nat) (a b:Te),a.size≤N→a.Wf→j5 19 [o6 a,o6 b] (l5 (U1 a b)):=by
 intro N
 induction N with
 |zero=>intro a b h;have:=Te.size_pos a;omega
 |succ N ih =>
  intro a b hN hw;rw[Te.same_iff];cases hk:decide (a.kind=b.kind) with
  |false=>exact pV [yF] [Bt .eql 3 6 8 a.kind b.kind bF] func19 ⟨C9 hk,Z⟩
  |true =>
   cases hs:decide (a.np=b.np) && decide (a.nn=b.nn) with
   |false=>exact pV [yT,yF] [Bt .eql 3 6 8 a.kind b.kind bT,Bn .eql 42 (.tmp 12) (.tmp 14) (Value.agg #[str a.np,str a.nn]) (Value.agg #[str b.np,str b.nn]) bF] func19 ⟨C9 hk,ae hs,Z⟩
   |true =>
    have h1:=VH hw.val b.val;cases hv:U1 a.val b.val with
    |false =>
     rw[hv]at h1;exact pV [yT,yT,yF] [Bt .eql 3 6 8 a.kind b.kind bT,Bn .eql 42 (.tmp 12) (.tmp 14) (Value.agg #[str a.np,str a.nn]) (Value.agg #[str b.np,str b.nn]) bT,_] func19 ⟨C9 hk,ae hs,h1,Z⟩
    |true =>
     rw[hv]at h1;exact pV [yT,yT,yT,.av (l5 (U1 a.args b.args))] [Bt .eql 3 6 8 a.kind b.kind bT,Bn .eql 42 (.tmp 12) (.tmp 14) (Value.agg #[str a.np,str a.nn]) (Value.agg #[str b.np,str b.nn]) bT,_,j5 50 [(.dt (.row (List.map Te.enc a.args))),(.dt (.row (List.map Te.enc b.args)))] (l5 (U1 a.args b.args))] func19 ⟨C9 hk,ae hs,h1,a4T hw.len fun x hx y=>ih x y (by have:=Te.ym hx;omega) (hw.kids hx),Z⟩
theorem Xp{a:Te}(h:a.Wf)(b:Te):j5 19 [o6 a,o6 b] (l5 (U1 a b)):=b0f _ a b (PP _) h
abbrev uD(c:List Te)(f:FuncId)(cs:List AV)(i:Int):AS:=⟨stt 19 [(0,C8 c),(1,.au f cs),(7,j4 c.length),(8,j4 i)],[]⟩
abbrev Ot(i:Int):AS:=⟨stt 19 [(4,j4 i)],[]⟩
abbrev Gn:AS:=⟨stt 19 [],[]⟩
noncomputable abbrev BA:Code:=M6 (O4 f103) [1,0,1,0,0]
theorem YM{c:List Te}{f:FuncId}{cs:List AV}{x:Te}{i:Nat}(hx:c[i]?=some x)(hl:c.length≤9223372036854775807)(h:j5 f ([o6 x]++cs) (l5 false)):y7 EX BA (uD c f cs i) .F6 (uD c f cs ((i+1:Nat):Int)) :=
 tW [yT,.av (.pin ((o8 x).map .dt)),yF,.av (j4 ((i+1:Nat):Int))] [] [0,1,7,8] 0 [Bt .lss 3 8 7 ↑i ↑c.length bT,z8 (List.map Te.enc c) ↑i 11 (o8 x),j5 f ([(o6 x)]++cs) (l5 false),Bk .add 3 8 1 ↑i (vi (↑(i+1)))]     ⟨D8 (Pi (by have:=(UV.1 hx).1;omega)),M5 hx,h,H6 J J (by have:=(UV.1 hx).1;omega),Z⟩
theorem b5s{c:List Te}{f:FuncId}{cs:List AV}{i:Nat}(hi:i=c.length):y7 EX BA (uD c f cs i) (.out 0) Gn :=
 tW [yF] [] [] 0 [Bt .lss 3 8 7 ↑i ↑c.length bF]     ⟨D8 (WF J),Z⟩
theorem b5t{c:List Te}{f:FuncId}{cs:List AV}{x:Te}{i:Nat}(hx:c[i]?=some x)(h:j5 f ([o6 x]++cs) (l5 true)):y7 EX BA (uD c f cs i) .ret (Ot i) :=
 tW [yT,.av (.pin ((o8 x).map .dt)),yT] [] [4] 0 [Bt .lss 3 8 7 ↑i ↑c.length bT,z8 (List.map Te.enc c) ↑i 11 (o8 x),j5 f ([(o6 x)]++cs) (l5 true)]     ⟨D8 (Pi (by have:=(UV.1 hx).1;omega)),M5 hx,h,Z⟩
theorem a4U{c:List Te}{f:FuncId}{cs:List AV}{p:Te→Bool}(hl:c.length≤9223372036854775807)(h:∀x∈c,j5 f ([o6 x]++cs) (l5 (p x))):∃k:Int,j5 103 [C8 c,.au f cs] (j4 k)∧decide (0≤k)=c.any p:=by
 have loop:∀(s:List Te) (i:Nat),c.drop i=s→i≤c.length→(s.any p=true→∃j:Nat,I7 EX BA (uD c f cs i) .ret (Ot j))∧(s.any p=false→I7 EX BA (uD c f cs i) (.out 0) Gn):=by
  intro s
  induction s with
  |nil =>
   intro i hd hi;have e1:=congrArg List.length hd;rw[ut,List.length_nil]at e1;exact⟨fun h=>by simp at h,fun _=>.stop (b5s J) (fun h=>by cases h)⟩
  |cons x s ih =>
   intro i hd hi;have hx:c[i]?=some x:=by rw[←Za1,hd];rfl
   have hlt:=(UV.1 hx).1;have hc:=h x (q8 hx);obtain⟨k1,k2⟩:=ih (i+1) (by rw[←Za0,hd];rfl) J;rw[List.any_cons];cases hp:p x with
   |true =>
    rw[hp]at hc;exact⟨fun _=>⟨i,.stop (b5t hx hc) (fun h=>by cases h)⟩,fun e=>by simp at e⟩
   |false =>
    rw[hp]at hc;rw[Bool.false_or];exact⟨fun e=>(k1 e).elim fun j hj=>⟨j,.more (YM hx hl hc) hj⟩,fun e=>.more (YM hx hl hc) (k2 e)⟩
 obtain⟨k1,k2⟩:=loop c 0 rfl (Ci _);cases hp:c.any p with
 |true =>
  obtain⟨j,hj⟩:=k1 hp;exact⟨j,pW [.av (j4 c.length)] [.inv [0,1,7,8] 0 (.ret) (Ot j)] [(vi ↑c.length)=(vi (↑(List.map Te.enc c).length)),_] func103 ⟨F9 _,hj.I8,Z⟩,Pi J⟩
 |false=>exact⟨-1,pW [.av (j4 c.length)] [.inv [0,1,7,8] 0 (.out 0) (Gn)] [(vi ↑c.length)=(vi (↑(List.map Te.enc c).length)),y7 EX (.loop (M6 (O4 f103) [1,0,1,0,0])) (uD c f cs 0) (.out 0) (Gn)] func103 ⟨F9 _,(k2 hp).I8,Z⟩,rfl⟩
theorem Db{c:List Te}{f:FuncId}{cs:List AV}{p:Te→Bool}(hl:c.length≤9223372036854775807)(h:∀x∈c,j5 f ([o6 x]++cs) (l5 (p x))):j5 59 [C8 c,.au f cs] (l5 (c.any p)):=by
 obtain⟨k,h1,h2⟩:=a4U hl h;rw[←h2];exact pV [.av (j4 k),.av (l5 (decide (0≤k)))] [_,Bk .geq 3 7 0 k (Value.bool (decide (0≤k)))] func59 ⟨h1,U0 rfl,Z⟩
theorem a7F{x:Te}(hx:x.Wf)(t:Te):j5 106 [o6 x,.pin ((o8 t).map .dt)] (l5 (U1 x t)):=pV [.av (l5 (U1 x t))] [j5 62 [(o6 x),(o6 t)] (l5 (U1 x t))] func106 ⟨zz hx t,Z⟩
theorem Ug{c:List Te}{t:Te}:c.any (fun x=>U1 x t)=decide (t∈c):=by
 rw[Bool.eq_iff_iff,List.any_eq_true,decide_eq_true_iff];exact⟨fun⟨x,hx,e⟩=>(bv e) ▸ hx,fun h=>⟨t,h,Pi rfl⟩⟩
theorem iX{c:List Te}(hl:c.length≤9223372036854775807)(h:∀x∈c,x.Wf)(t:Te):j5 63 [C8 c,o6 t] (l5 (decide (t∈c))) :=
 pV [.av (l5 (decide (t∈c)))] [j5 59 [(.dt (.row (List.map Te.enc c))),(.au 106 [(.pin ((o8 t).map .dt))])] (l5 (decide (t∈c)))] func63 ⟨(Db (p:=fun x=>U1 x t) hl fun x hx=>a7F (h x hx) t).b Ug,Z⟩
abbrev qY(c:List Te)(t:Te)(i:Int):AS:=⟨stt 18 [(0,C8 c),(3,.ptr 0 0),(5,j4 i)],[some (.cells ((o8 t).map .dt))]⟩
abbrev Gp(t:Te)(b:Bool):AS:=⟨stt 18 [(4,l5 b)],[some (.cells ((o8 t).map .dt))]⟩
abbrev Gq(t:Te):AS:=⟨stt 18 [],[some (.cells ((o8 t).map .dt))]⟩
noncomputable abbrev BB:Code:=M6 (O4 f39) [1,0,1,0,0]
theorem YN{c:List Te}{t x:Te}{i:Nat}(hx:c[i]?=some x)(hl:c.length≤9223372036854775807)(h:j5 19 [o6 x,o6 t] (l5 false)):y7 EX BB (qY c t i) .F6 (qY c t ((i+1:Nat):Int)) :=
 tW [.av (j4 c.length),yT,.av (.pin ((o8 x).map .dt)),yF,.av (j4 ((i+1:Nat):Int))] [] [0,3,5] 1 [(vi ↑c.length)=(vi (↑(List.map Te.enc c).length)),Bt .lss 3 6 8 ↑i ↑c.length bT,z8 (List.map Te.enc c) ↑i 11 (o8 x),j5 19 [(o6 x),(o6 t)] (l5 false),Bk .add 3 10 1 ↑i (vi (↑(i+1)))]     ⟨F9 _,D8 (Pi (by have:=(UV.1 hx).1;omega)),M5 hx,h,H6 J J (by have:=(UV.1 hx).1;omega),Z⟩
theorem b5u{c:List Te}{t:Te}{i:Nat}(hi:i=c.length):y7 EX BB (qY c t i) (.out 0) (Gq t) :=
 tW [.av (j4 c.length),yF] [] [] 1 [(vi ↑c.length)=(vi (↑(List.map Te.enc c).length)),Bt .lss 3 6 8 ↑i ↑c.length bF]     ⟨F9 _,D8 (WF J),Z⟩
theorem b5v{c:List Te}{t x:Te}{i:Nat}(hx:c[i]?=some x)(h:j5 19 [o6 x,o6 t] (l5 true)):y7 EX BB (qY c t i) .ret (Gp t true) :=
 tW [.av (j4 c.length),yT,.av (.pin ((o8 x).map .dt)),yT] [] [4] 1 [(vi ↑c.length)=(vi (↑(List.map Te.enc c).length)),Bt .lss 3 6 8 ↑i ↑c.length bT,z8 (List.map Te.enc c) ↑i 11 (o8 x),j5 19 [(o6 x),(o6 t)] (l5 true)]     ⟨F9 _,D8 (Pi (by have:=(UV.1 hx).1;omega)),M5 hx,h,Z⟩
theorem Uh{c:List Te}(hl:c.length≤9223372036854775807)(h:∀x∈c,x.Wf)(t:Te):j5 39 [C8 c,o6 t] (l5 (decide (t∈c))):=by
 have loop:∀(s:List Te) (i:Nat),c.drop i=s→i≤c.length→(s.any (fun x=>U1 x t)=true→I7 EX BB (qY c t i) .ret (Gp t true))∧(s.any (fun x=>U1 x t)=false→I7 EX BB (qY c t i) (.out 0) (Gq t)):=by
  intro s
  induction s with
  |nil =>
   intro i hd hi;have e1:=congrArg List.length hd;rw[ut,List.length_nil]at e1;exact⟨fun h=>by simp at h,fun _=>.stop (b5u J) (fun h=>by cases h)⟩
  |cons x s ih =>
   intro i hd hi;have hx:c[i]?=some x:=by rw[←Za1,hd];rfl
   have hlt:=(UV.1 hx).1;have hc:=Xp (h x (q8 hx)) t;obtain⟨k1,k2⟩:=ih (i+1) (by rw[←Za0,hd];rfl) J;rw[List.any_cons];cases hp:U1 x t with
   |true =>
    rw[hp]at hc;exact⟨fun _=>.stop (b5v hx hc) (fun h=>by cases h),fun e=>by simp at e⟩
   |false =>
    rw[hp]at hc;rw[Bool.false_or];exact⟨fun e=>.more (YN hx hl hc) (k1 e),fun e=>.more (YN hx hl hc) (k2 e)⟩
 obtain⟨k1,k2⟩:=loop c 0 rfl (Ci _);rw[←Ug];cases hp:c.any fun x=>U1 x t with
 |true=>exact pW [] [.inv [0,3,5] 1 (.ret) (Gp t true)] [y7 EX (.loop (M6 (O4 f39) [1,0,1,0,0])) (qY c t 0) (.ret) (Gp t true)] func39 ⟨(k1 hp).I8,Z⟩
 |false=>exact pW [] [.inv [0,3,5] 1 (.out 0) (Gq t)] [y7 EX (.loop (M6 (O4 f39) [1,0,1,0,0])) (qY c t 0) (.out 0) (Gq t)] func39 ⟨(k2 hp).I8,Z⟩
namespace Te
theorem aA{t:Te}{n:lw}{k i:Nat}(h:is t n k)(hi:i < k):t.args[i]?=some (t.arg i):=by
 have hl:t.args.length=k:=h.2.2.2;unfold arg;rw[AC,ww J];rfl
theorem gp(a:Te):[o8 a]=[a].map Te.enc:=by simp only[Zaq,List.map_nil,mf]
theorem YO(a b c:Te):[o8 a,o8 b,o8 c]=[a,b,c].map Te.enc:=by simp only[Zaq,List.map_nil,mf]
end Te
open Te
theorem lJ(n:lw)(a:Te):j5 47 [stA n,.dt (.row [o8 a])] (o6 (Te.ap n [a])):=JI n [a] (gp a)
theorem Jp(n:lw)(a:Te):j5 27 [stA n,.dt (.row [o8 a])] (o6 (Te.ap n [a])):=JJ n [a] (gp a)
theorem jF(n:lw)(a b c:Te):j5 47 [stA n,.dt (.row [o8 a,o8 b,o8 c])] (o6 (Te.ap n [a,b,c])):=JI n [a,b,c] (YO a b c)
theorem Di(n:lw)(a b c:Te):j5 27 [stA n,.dt (.row [o8 a,o8 b,o8 c])] (o6 (Te.ap n [a,b,c])):=JJ n [a,b,c] (YO a b c)
abbrev opA:Option Te→Te→AV
 |some t,_=>.l7 [o6 t,l5 true]
 |none,t=>.l7 [o6 t,l5 false]
theorem U5{p:Prop}[Decidable p](h:p):decide p=true:=Pi h
theorem M8{p:Prop}[Decidable p](h:¬p):decide p=false:=WF h
theorem zK(t:Te):j5 29 [o6 t] (o6 (neg t)):=by
 unfold neg;by_cases h:is t D9 1
 ·rw[Ch h];have h0:=aA h (show 0 < 1 by omega);generalize t.arg 0=a at *;exact pV [yT,.av (.pin ((o8 a).map .dt))] [j5 61 [(.agg [(j4 t.kind),(stA t.np),(stA t.nn),(j4 t.val.kind),(stA t.val.num),(stA t.val.den),(stA t.val.sp),(stA t.val.sn),(stA t.val.text),(.dt (.row (List.map Ob.enc t.val.pair))),(.dt (.row (List.map enc t.args)))]),(stA [110,111,116]),(j4 1)] (l5 true),z8 (List.map enc t.args) 0 11 ([(.val (vi a.kind)),(.val (str a.np)),(.val (str a.nn)),(.val (vi a.val.kind)),(.val (str a.val.num)),(.val (str a.val.den)),(.val (str a.val.sp)),(.val (str a.val.sn)),(.val (str a.val.text)),(.row (List.map Ob.enc a.val.pair)),(.row (List.map enc a.args))])] func29 ⟨(aQ t D9 1).b (U5 h),M5 h0,Z⟩
 ·rw[EQ h];exact pV [yF,.av (o6 (ap D9 [t]))] [j5 61 [(.agg [(j4 t.kind),(stA t.np),(stA t.nn),(j4 t.val.kind),(stA t.val.num),(stA t.val.den),(stA t.val.sp),(stA t.val.sn),(stA t.val.text),(.dt (.row (List.map Ob.enc t.val.pair))),(.dt (.row (List.map enc t.args)))]),(stA [110,111,116]),(j4 1)] (l5 false),j5 47 [(stA [110,111,116]),(.dt (.row [[(.val (vi t.kind)),(.val (str t.np)),(.val (str t.nn)),(.val (vi t.val.kind)),(.val (str t.val.num)),(.val (str t.val.den)),(.val (str t.val.sp)),(.val (str t.val.sn)),(.val (str t.val.text)),(.row (List.map Ob.enc t.val.pair)),(.row (List.map enc t.args))]]))] (.agg [(j4 ((ap D9 [t]).kind)),(stA (ap D9 [t]).np),(stA (ap D9 [t]).nn),(j4 ((ap D9 [t]).val.kind)),(stA (ap D9 [t]).val.num),(stA (ap D9 [t]).val.den),(stA (ap D9 [t]).val.sp),(stA (ap D9 [t]).val.sn),(stA (ap D9 [t]).val.text),(.dt (.row (List.map Ob.enc (ap D9 [t]).val.pair))),(.dt (.row (List.map enc (ap D9 [t]).args)))])] func29 ⟨(aQ t D9 1).b (M8 h),JI D9 [t] (gp t),Z⟩
theorem nA(t:Te):j5 101 [o6 t] (opA (opened t) F4):=by
 unfold opened;by_cases h:is t D9 1
 ·rw[Ch h];have h0:=aA h (show 0 < 1 by omega);generalize t.arg 0=a at *;exact pV [.av (o6 r9),.av (o6 noT),yT,.av (.pin ((o8 a).map .dt)),.av (o6 (ap x8 [a,noT,r9]))] [j5 46 [(l5 true)] (.agg [(j4 2),(stA r9.np),(stA r9.nn),(j4 2),(stA r9.val.num),(stA r9.val.den),(stA r9.val.sp),(stA r9.val.sn),(stA r9.val.text),(.dt (.row (List.map Ob.enc r9.val.pair))),(.dt (.row (List.map enc r9.args)))]),j5 46 [(l5 false)] (.agg [(j4 2),(stA noT.np),(stA noT.nn),(j4 2),(stA noT.val.num),(stA noT.val.den),(stA noT.val.sp),(stA noT.val.sn),(stA noT.val.text),(.dt (.row (List.map Ob.enc noT.val.pair))),(.dt (.row (List.map enc noT.args)))]),j5 61 [(.agg [(j4 t.kind),(stA t.np),(stA t.nn),(j4 t.val.kind),(stA t.val.num),(stA t.val.den),(stA t.val.sp),(stA t.val.sn),(stA t.val.text),(.dt (.row (List.map Ob.enc t.val.pair))),(.dt (.row (List.map enc t.args)))]),(stA [110,111,116]),(j4 1)] (l5 true),z8 (List.map enc t.args) 0 11 ([(.val (vi a.kind)),(.val (str a.np)),(.val (str a.nn)),(.val (vi a.val.kind)),(.val (str a.val.num)),(.val (str a.val.den)),(.val (str a.val.sp)),(.val (str a.val.sn)),(.val (str a.val.text)),(.row (List.map Ob.enc a.val.pair)),(.row (List.map enc a.args))]),j5 47 [(stA [105,102]),(.dt (.row [[(.val (vi a.kind)),(.val (str a.np)),(.val (str a.nn)),(.val (vi a.val.kind)),(.val (str a.val.num)),(.val (str a.val.den)),(.val (str a.val.sp)),(.val (str a.val.sn)),(.val (str a.val.text)),(.row (List.map Ob.enc a.val.pair)),(.row (List.map enc a.args))],[(.val (vi 2)),(.val (str noT.np)),(.val (str noT.nn)),(.val (vi 2)),(.val (str noT.val.num)),(.val (str noT.val.den)),(.val (str noT.val.sp)),(.val (str noT.val.sn)),(.val (str noT.val.text)),(.row (List.map Ob.enc noT.val.pair)),(.row (List.map enc noT.args))],[(.val (vi 2)),(.val (str r9.np)),(.val (str r9.nn)),(.val (vi 2)),(.val (str r9.val.num)),(.val (str r9.val.den)),(.val (str r9.val.sp)),(.val (str r9.val.sn)),(.val (str r9.val.text)),(.row (List.map Ob.enc r9.val.pair)),(.row (List.map enc r9.args))]]))] (.agg [(j4 ((ap x8 [a,noT,r9]).kind)),(stA (ap x8 [a,noT,r9]).np),(stA (ap x8 [a,noT,r9]).nn),(j4 ((ap x8 [a,noT,r9]).val.kind)),(stA (ap x8 [a,noT,r9]).val.num),(stA (ap x8 [a,noT,r9]).val.den),(stA (ap x8 [a,noT,r9]).val.sp),(stA (ap x8 [a,noT,r9]).val.sn),(stA (ap x8 [a,noT,r9]).val.text),(.dt (.row (List.map Ob.enc (ap x8 [a,noT,r9]).val.pair))),(.dt (.row (List.map enc (ap x8 [a,noT,r9]).args)))])] func101 ⟨ko true,ko false,(aQ t D9 1).b (U5 h),M5 h0,jF x8 a noT r9,Z⟩
 rw[EQ h];by_cases h2:is t dN 2
 ·rw[Ch h2];have h0:=aA h2 (show 0 < 2 by omega);have h1:=aA h2 (show 1 < 2 by omega);generalize t.arg 0=a at *;generalize t.arg 1=b at *;exact pV [.av (o6 r9),.av (o6 noT),yF,yT,.av (.pin ((o8 a).map .dt)),.av (.pin ((o8 b).map .dt)),.av (o6 (ap x8 [b,r9,noT])),.av (o6 (ap x8 [a,ap x8 [b,r9,noT],r9]))] [j5 46 [(l5 true)] (.agg [(j4 2),(stA r9.np),(stA r9.nn),(j4 2),(stA r9.val.num),(stA r9.val.den),(stA r9.val.sp),(stA r9.val.sn),(stA r9.val.text),(.dt (.row (List.map Ob.enc r9.val.pair))),(.dt (.row (List.map enc r9.args)))]),j5 46 [(l5 false)] (.agg [(j4 2),(stA noT.np),(stA noT.nn),(j4 2),(stA noT.val.num),(stA noT.val.den),(stA noT.val.sp),(stA noT.val.sn),(stA noT.val.text),(.dt (.row (List.map Ob.enc noT.val.pair))),(.dt (.row (List.map enc noT.args)))]),j5 61 [(.agg [(j4 t.kind),(stA t.np),(stA t.nn),(j4 t.val.kind),(stA t.val.num),(stA t.val.den),(stA t.val.sp),(stA t.val.sn),(stA t.val.text),(.dt (.row (List.map Ob.enc t.val.pair))),(.dt (.row (List.map enc t.args)))]),(stA [110,111,116]),(j4 1)] (l5 false),j5 61 [(.agg [(j4 t.kind),(stA t.np),(stA t.nn),(j4 t.val.kind),(stA t.val.num),(stA t.val.den),(stA t.val.sp),(stA t.val.sn),(stA t.val.text),(.dt (.row (List.map Ob.enc t.val.pair))),(.dt (.row (List.map enc t.args)))]),(stA [105,109,112,108,105,101,115]),(j4 2)] (l5 true),z8 (List.map enc t.args) 0 11 ([(.val (vi a.kind)),(.val (str a.np)),(.val (str a.nn)),(.val (vi a.val.kind)),(.val (str a.val.num)),(.val (str a.val.den)),(.val (str a.val.sp)),(.val (str a.val.sn)),(.val (str a.val.text)),(.row (List.map Ob.enc a.val.pair)),(.row (List.map enc a.args))]),z8 (List.map enc t.args) 1 11 ([(.val (vi b.kind)),(.val (str b.np)),(.val (str b.nn)),(.val (vi b.val.kind)),(.val (str b.val.num)),(.val (str b.val.den)),(.val (str b.val.sp)),(.val (str b.val.sn)),(.val (str b.val.text)),(.row (List.map Ob.enc b.val.pair)),(.row (List.map enc b.args))]),j5 47 [(stA [105,102]),(.dt (.row [[(.val (vi b.kind)),(.val (str b.np)),(.val (str b.nn)),(.val (vi b.val.kind)),(.val (str b.val.num)),(.val (str b.val.den)),(.val (str b.val.sp)),(.val (str b.val.sn)),(.val (str b.val.text)),(.row (List.map Ob.enc b.val.pair)),(.row (List.map enc b.args))],[(.val (vi 2)),(.val (str r9.np)),(.val (str r9.nn)),(.val (vi 2)),(.val (str r9.val.num)),(.val (str r9.val.den)),(.val (str r9.val.sp)),(.val (str r9.val.sn)),(.val (str r9.val.text)),(.row (List.map Ob.enc r9.val.pair)),(.row (List.map enc r9.args))],[(.val (vi 2)),(.val (str noT.np)),(.val (str noT.nn)),(.val (vi 2)),(.val (str noT.val.num)),(.val (str noT.val.den)),(.val (str noT.val.sp)),(.val (str noT.val.sn)),(.val (str noT.val.text)),(.row (List.map Ob.enc noT.val.pair)),(.row (List.map enc noT.args))]]))] (.agg [(j4 ((ap x8 [b,r9,noT]).kind)),(stA (ap x8 [b,r9,noT]).np),(stA (ap x8 [b,r9,noT]).nn),(j4 ((ap x8 [b,r9,noT]).val.kind)),(stA (ap x8 [b,r9,noT]).val.num),(stA (ap x8 [b,r9,noT]).val.den),(stA (ap x8 [b,r9,noT]).val.sp),(stA (ap x8 [b,r9,noT]).val.sn),(stA (ap x8 [b,r9,noT]).val.text),(.dt (.row (List.map Ob.enc (ap x8 [b,r9,noT]).val.pair))),(.dt (.row (List.map enc (ap x8 [b,r9,noT]).args)))]),j5 47 [(stA [105,102]),(.dt (.row [[(.val (vi a.kind)),(.val (str a.np)),(.val (str a.nn)),(.val (vi a.val.kind)),(.val (str a.val.num)),(.val (str a.val.den)),(.val (str a.val.sp)),(.val (str a.val.sn)),(.val (str a.val.text)),(.row (List.map Ob.enc a.val.pair)),(.row (List.map enc a.args))],[(.val (vi ((ap x8 [b,r9,noT]).kind))),(.val (str (ap x8 [b,r9,noT]).np)),(.val (str (ap x8 [b,r9,noT]).nn)),(.val (vi ((ap x8 [b,r9,noT]).val.kind))),(.val (str (ap x8 [b,r9,noT]).val.num)),(.val (str (ap x8 [b,r9,noT]).val.den)),(.val (str (ap x8 [b,r9,noT]).val.sp)),(.val (str (ap x8 [b,r9,noT]).val.sn)),(.val (str (ap x8 [b,r9,noT]).val.text)),(.row (List.map Ob.enc (ap x8 [b,r9,noT]).val.pair)),(.row (List.map enc (ap x8 [b,r9,noT]).args))],[(.val (vi 2)),(.val (str r9.np)),(.val (str r9.nn)),(.val (vi 2)),(.val (str r9.val.num)),(.val (str r9.val.den)),(.val (str r9.val.sp)),(.val (str r9.val.sn)),(.val (str r9.val.text)),(.row (List.map Ob.enc r9.val.pair)),(.row (List.map enc r9.args))]]))] (.agg [(j4 ((ap x8 [a,ap x8 [b,r9,noT],r9]).kind)),(stA (ap x8 [a,ap x8 [b,r9,noT],r9]).np),(stA (ap x8 [a,ap x8 [b,r9,noT],r9]).nn),(j4 ((ap x8 [a,ap x8 [b,r9,noT],r9]).val.kind)),(stA (ap x8 [a,ap x8 [b,r9,noT],r9]).val.num),(stA (ap x8 [a,ap x8 [b,r9,noT],r9]).val.den),(stA (ap x8 [a,ap x8 [b,r9,noT],r9]).val.sp),(stA (ap x8 [a,ap x8 [b,r9,noT],r9]).val.sn),(stA (ap x8 [a,ap x8 [b,r9,noT],r9]).val.text),(.dt (.row (List.map Ob.enc (ap x8 [a,ap x8 [b,r9,noT],r9]).val.pair))),(.dt (.row (List.map enc (ap x8 [a,ap x8 [b,r9,noT],r9]).args)))])] func101 ⟨ko true,ko false,(aQ t D9 1).b (M8 h),(aQ t dN 2).b (U5 h2),M5 h0,M5 h1,jF x8 b r9 noT,jF x8 a (ap x8 [b,r9,noT]) r9,Z⟩
 rw[EQ h2];by_cases h3:is t fH 2
 ·rw[Ch h3];have h0:=aA h3 (show 0 < 2 by omega);have h1:=aA h3 (show 1 < 2 by omega);generalize t.arg 0=a at *;generalize t.arg 1=b at *;exact pV [.av (o6 r9),.av (o6 noT),yF,yF,yT,.av (.pin ((o8 a).map .dt)),.av (.pin ((o8 b).map .dt)),.av (o6 (ap x8 [b,r9,noT])),.av (.pin ((o8 b).map .dt)),.av (o6 (ap x8 [b,noT,r9])),.av (o6 (ap x8 [a,ap x8 [b,r9,noT],ap x8 [b,noT,r9]]))] [j5 46 [(l5 true)] (.agg [(j4 2),(stA r9.np),(stA r9.nn),(j4 2),(stA r9.val.num),(stA r9.val.den),(stA r9.val.sp),(stA r9.val.sn),(stA r9.val.text),(.dt (.row (List.map Ob.enc r9.val.pair))),(.dt (.row (List.map enc r9.args)))]),j5 46 [(l5 false)] (.agg [(j4 2),(stA noT.np),(stA noT.nn),(j4 2),(stA noT.val.num),(stA noT.val.den),(stA noT.val.sp),(stA noT.val.sn),(stA noT.val.text),(.dt (.row (List.map Ob.enc noT.val.pair))),(.dt (.row (List.map enc noT.args)))]),j5 61 [(.agg [(j4 t.kind),(stA t.np),(stA t.nn),(j4 t.val.kind),(stA t.val.num),(stA t.val.den),(stA t.val.sp),(stA t.val.sn),(stA t.val.text),(.dt (.row (List.map Ob.enc t.val.pair))),(.dt (.row (List.map enc t.args)))]),(stA [110,111,116]),(j4 1)] (l5 false),j5 61 [(.agg [(j4 t.kind),(stA t.np),(stA t.nn),(j4 t.val.kind),(stA t.val.num),(stA t.val.den),(stA t.val.sp),(stA t.val.sn),(stA t.val.text),(.dt (.row (List.map Ob.enc t.val.pair))),(.dt (.row (List.map enc t.args)))]),(stA [105,109,112,108,105,101,115]),(j4 2)] (l5 false),j5 61 [(.agg [(j4 t.kind),(stA t.np),(stA t.nn),(j4 t.val.kind),(stA t.val.num),(stA t.val.den),(stA t.val.sp),(stA t.val.sn),(stA t.val.text),(.dt (.row (List.map Ob.enc t.val.pair))),(.dt (.row (List.map enc t.args)))]),(stA [105,102,102]),(j4 2)] (l5 true),z8 (List.map enc t.args) 0 11 ([(.val (vi a.kind)),(.val (str a.np)),(.val (str a.nn)),(.val (vi a.val.kind)),(.val (str a.val.num)),(.val (str a.val.den)),(.val (str a.val.sp)),(.val (str a.val.sn)),(.val (str a.val.text)),(.row (List.map Ob.enc a.val.pair)),(.row (List.map enc a.args))]),z8 (List.map enc t.args) 1 11 ([(.val (vi b.kind)),(.val (str b.np)),(.val (str b.nn)),(.val (vi b.val.kind)),(.val (str b.val.num)),(.val (str b.val.den)),(.val (str b.val.sp)),(.val (str b.val.sn)),(.val (str b.val.text)),(.row (List.map Ob.enc b.val.pair)),(.row (List.map enc b.args))]),j5 47 [(stA [105,102]),(.dt (.row [[(.val (vi b.kind)),(.val (str b.np)),(.val (str b.nn)),(.val (vi b.val.kind)),(.val (str b.val.num)),(.val (str b.val.den)),(.val (str b.val.sp)),(.val (str b.val.sn)),(.val (str b.val.text)),(.row (List.map Ob.enc b.val.pair)),(.row (List.map enc b.args))],[(.val (vi 2)),(.val (str r9.np)),(.val (str r9.nn)),(.val (vi 2)),(.val (str r9.val.num)),(.val (str r9.val.den)),(.val (str r9.val.sp)),(.val (str r9.val.sn)),(.val (str r9.val.text)),(.row (List.map Ob.enc r9.val.pair)),(.row (List.map enc r9.args))],[(.val (vi 2)),(.val (str noT.np)),(.val (str noT.nn)),(.val (vi 2)),(.val (str noT.val.num)),(.val (str noT.val.den)),(.val (str noT.val.sp)),(.val (str noT.val.sn)),(.val (str noT.val.text)),(.row (List.map Ob.enc noT.val.pair)),(.row (List.map enc noT.args))]]))] (.agg [(j4 ((ap x8 [b,r9,noT]).kind)),(stA (ap x8 [b,r9,noT]).np),(stA (ap x8 [b,r9,noT]).nn),(j4 ((ap x8 [b,r9,noT]).val.kind)),(stA (ap x8 [b,r9,noT]).val.num),(stA (ap x8 [b,r9,noT]).val.den),(stA (ap x8 [b,r9,noT]).val.sp),(stA (ap x8 [b,r9,noT]).val.sn),(stA (ap x8 [b,r9,noT]).val.text),(.dt (.row (List.map Ob.enc (ap x8 [b,r9,noT]).val.pair))),(.dt (.row (List.map enc (ap x8 [b,r9,noT]).args)))]),z8 (List.map enc t.args) 1 11 ([(.val (vi b.kind)),(.val (str b.np)),(.val (str b.nn)),(.val (vi b.val.kind)),(.val (str b.val.num)),(.val (str b.val.den)),(.val (str b.val.sp)),(.val (str b.val.sn)),(.val (str b.val.text)),(.row (List.map Ob.enc b.val.pair)),(.row (List.map enc b.args))]),j5 47 [(stA [105,102]),(.dt (.row [[(.val (vi b.kind)),(.val (str b.np)),(.val (str b.nn)),(.val (vi b.val.kind)),(.val (str b.val.num)),(.val (str b.val.den)),(.val (str b.val.sp)),(.val (str b.val.sn)),(.val (str b.val.text)),(.row (List.map Ob.enc b.val.pair)),(.row (List.map enc b.args))],[(.val (vi 2)),(.val (str noT.np)),(.val (str noT.nn)),(.val (vi 2)),(.val (str noT.val.num)),(.val (str noT.val.den)),(.val (str noT.val.sp)),(.val (str noT.val.sn)),(.val (str noT.val.text)),(.row (List.map Ob.enc noT.val.pair)),(.row (List.map enc noT.args))],[(.val (vi 2)),(.val (str r9.np)),(.val (str r9.nn)),(.val (vi 2)),(.val (str r9.val.num)),(.val (str r9.val.den)),(.val (str r9.val.sp)),(.val (str r9.val.sn)),(.val (str r9.val.text)),(.row (List.map Ob.enc r9.val.pair)),(.row (List.map enc r9.args))]]))] (.agg [(j4 ((ap x8 [b,noT,r9]).kind)),(stA (ap x8 [b,noT,r9]).np),(stA (ap x8 [b,noT,r9]).nn),(j4 ((ap x8 [b,noT,r9]).val.kind)),(stA (ap x8 [b,noT,r9]).val.num),(stA (ap x8 [b,noT,r9]).val.den),(stA (ap x8 [b,noT,r9]).val.sp),(stA (ap x8 [b,noT,r9]).val.sn),(stA (ap x8 [b,noT,r9]).val.text),(.dt (.row (List.map Ob.enc (ap x8 [b,noT,r9]).val.pair))),(.dt (.row (List.map enc (ap x8 [b,noT,r9]).args)))]),j5 47 [(stA [105,102]),(.dt (.row [[(.val (vi a.kind)),(.val (str a.np)),(.val (str a.nn)),(.val (vi a.val.kind)),(.val (str a.val.num)),(.val (str a.val.den)),(.val (str a.val.sp)),(.val (str a.val.sn)),(.val (str a.val.text)),(.row (List.map Ob.enc a.val.pair)),(.row (List.map enc a.args))],[(.val (vi ((ap x8 [b,r9,noT]).kind))),(.val (str (ap x8 [b,r9,noT]).np)),(.val (str (ap x8 [b,r9,noT]).nn)),(.val (vi ((ap x8 [b,r9,noT]).val.kind))),(.val (str (ap x8 [b,r9,noT]).val.num)),(.val (str (ap x8 [b,r9,noT]).val.den)),(.val (str (ap x8 [b,r9,noT]).val.sp)),(.val (str (ap x8 [b,r9,noT]).val.sn)),(.val (str (ap x8 [b,r9,noT]).val.text)),(.row (List.map Ob.enc (ap x8 [b,r9,noT]).val.pair)),(.row (List.map enc (ap x8 [b,r9,noT]).args))],[(.val (vi ((ap x8 [b,noT,r9]).kind))),(.val (str (ap x8 [b,noT,r9]).np)),(.val (str (ap x8 [b,noT,r9]).nn)),(.val (vi ((ap x8 [b,noT,r9]).val.kind))),(.val (str (ap x8 [b,noT,r9]).val.num)),(.val (str (ap x8 [b,noT,r9]).val.den)),(.val (str (ap x8 [b,noT,r9]).val.sp)),(.val (str (ap x8 [b,noT,r9]).val.sn)),(.val (str (ap x8 [b,noT,r9]).val.text)),(.row (List.map Ob.enc (ap x8 [b,noT,r9]).val.pair)),(.row (List.map enc (ap x8 [b,noT,r9]).args))]]))] (.agg [(j4 ((ap x8 [a,ap x8 [b,r9,noT],ap x8 [b,noT,r9]]).kind)),(stA (ap x8 [a,ap x8 [b,r9,noT],ap x8 [b,noT,r9]]).np),(stA (ap x8 [a,ap x8 [b,r9,noT],ap x8 [b,noT,r9]]).nn),(j4 ((ap x8 [a,ap x8 [b,r9,noT],ap x8 [b,noT,r9]]).val.kind)),(stA (ap x8 [a,ap x8 [b,r9,noT],ap x8 [b,noT,r9]]).val.num),(stA (ap x8 [a,ap x8 [b,r9,noT],ap x8 [b,noT,r9]]).val.den),(stA (ap x8 [a,ap x8 [b,r9,noT],ap x8 [b,noT,r9]]).val.sp),(stA (ap x8 [a,ap x8 [b,r9,noT],ap x8 [b,noT,r9]]).val.sn),(stA (ap x8 [a,ap x8 [b,r9,noT],ap x8 [b,noT,r9]]).val.text),(.dt (.row (List.map Ob.enc (ap x8 [a,ap x8 [b,r9,noT],ap x8 [b,noT,r9]]).val.pair))),(.dt (.row (List.map enc (ap x8 [a,ap x8 [b,r9,noT],ap x8 [b,noT,r9]]).args)))])] func101 ⟨ko true,ko false,(aQ t D9 1).b (M8 h),(aQ t dN 2).b (M8 h2),(aQ t fH 2).b (U5 h3),M5 h0,M5 h1,jF x8 b r9 noT,M5 h1,jF x8 b noT r9,jF x8 a (ap x8 [b,r9,noT]) (ap x8 [b,noT,r9]),Z⟩
 rw[EQ h3];exact pV [.av (o6 r9),.av (o6 noT),yF,yF,yF] [j5 46 [(l5 true)] (.agg [(j4 2),(stA r9.np),(stA r9.nn),(j4 2),(stA r9.val.num),(stA r9.val.den),(stA r9.val.sp),(stA r9.val.sn),(stA r9.val.text),(.dt (.row (List.map Ob.enc r9.val.pair))),(.dt (.row (List.map enc r9.args)))]),j5 46 [(l5 false)] (.agg [(j4 2),(stA noT.np),(stA noT.nn),(j4 2),(stA noT.val.num),(stA noT.val.den),(stA noT.val.sp),(stA noT.val.sn),(stA noT.val.text),(.dt (.row (List.map Ob.enc noT.val.pair))),(.dt (.row (List.map enc noT.args)))]),j5 61 [(.agg [(j4 t.kind),(stA t.np),(stA t.nn),(j4 t.val.kind),(stA t.val.num),(stA t.val.den),(stA t.val.sp),(stA t.val.sn),(stA t.val.text),(.dt (.row (List.map Ob.enc t.val.pair))),(.dt (.row (List.map enc t.args)))]),(stA [110,111,116]),(j4 1)] (l5 false),j5 61 [(.agg [(j4 t.kind),(stA t.np),(stA t.nn),(j4 t.val.kind),(stA t.val.num),(stA t.val.den),(stA t.val.sp),(stA t.val.sn),(stA t.val.text),(.dt (.row (List.map Ob.enc t.val.pair))),(.dt (.row (List.map enc t.args)))]),(stA [105,109,112,108,105,101,115]),(j4 2)] (l5 false),j5 61 [(.agg [(j4 t.kind),(stA t.np),(stA t.nn),(j4 t.val.kind),(stA t.val.num),(stA t.val.den),(stA t.val.sp),(stA t.val.sn),(stA t.val.text),(.dt (.row (List.map Ob.enc t.val.pair))),(.dt (.row (List.map enc t.args)))]),(stA [105,102,102]),(j4 2)] (l5 false)] func101 ⟨ko true,ko false,(aQ t D9 1).b (M8 h),(aQ t dN 2).b (M8 h2),(aQ t fH 2).b (M8 h3),Z⟩
end Go.Proofs.YtbpmpdadppamgaaGreatDoor
namespace Go.Proofs.YtbpmpdadppamgaaGreatDoor
open Go.Proofs.Tryz
open Go.RowKit
section
variable {X:Nat→Prop} {n0:Nat} {w0:World×Mm} {ok0:Nat→Prop} {M:Mm} {nt:Nat} {tm:Nat→AV} {bx:Nat→Option Bx} {a:Act} {w:World}
def Mm.Z9(M:Mm)(k:Nat):Mm:=⟨M.m,M.F,fun b=>if b=k then some (none,0,0) else M.o b⟩
theorem Mm.DD(M:Mm)(k:Nat):(M.Z9 k).o k=some (none,0,0):=Ch rfl
theorem DF{X':Nat→Prop}{m0:Nat}{k:Nat}(hS:aa X n0 M bx w)(hk:bx k=none):P5 X' m0 M w (M.Z9 k) w :=
 ⟨W9.refl _ _ _,fun _ _ _=>rfl,fun _ h _=>h,fun _ _ h=>h,fun b A n c h=>by
  by_cases e:b=k
  ·subst e;rw[hS.Dn hk]at h;cases h
  ·exact⟨A,n,c,(EQ e).trans h,PP _,fun _=>⟨rfl,rfl⟩⟩⟩
theorem Jq{k:Nat}(hS:aa X n0 M bx w)(le:n0≤w.heap.size)(hk:bx k=none)(e:TypeId)(kk:Nat):aa X n0 (M.Z9 k) (Z8 bx k (.buf e kk [])) w :=
 hS.upd (DF hS hk) le (fun _ hb=>⟨rfl,EQ hb⟩) (fun _ _ _=>rfl) (fun q hq=>⟨hS.fz q hq,.inl hq⟩) ⟨none,0,0,M.DD k,ah.nil _ _ _ _ _⟩
  (fun q ⟨n,c,hq⟩=>by rw[M.DD k]at hq;cases hq) (fun q hq=>by rw[show (M.Z9 k).m k=M.m k from rfl,hS.yO hk]at hq;cases hq)
theorem Ui{k:Nat}{v:Value}(h:RV M w .nil v):RV (M.Z9 k) w (.own k 0) v:=⟨none,0,none,0,0,h,M.DD k,PP _,fun _=>⟨rfl,rfl⟩⟩
theorem Inv.Z9(h:Inv X n0 w0 ok0 M nt tm bx a w){t k:Nat}(ht:tm t=.nil)(hk:bx k=none)(e:TypeId)(kk:Nat) :
  Inv X n0 w0 ok0 (M.Z9 k) nt (fun i=>if i=t then .own k 0 else tm i) (Z8 bx k (.buf e kk [])) a w:=by
 have g:P5 X n0 M w (M.Z9 k) w:=DF h.I9 hk;refine⟨h.below,h.le,h.defers,h.size,fun i=>?_,Jq h.I9 h.le hk e kk,h.src,h.iI.trans g⟩;by_cases hi:i=t
 ·subst hi;have hv:=h.tmps i;rw[ht]at hv;show RV _ _ (if i=i then _ else _) _;rw[Ch rfl];exact Ui hv
 ·show RV _ _ (if i=t then _ else _) _;rw[EQ hi];exact RV.go g _ _ (h.tmps i)
end
def XD(E:En)(fn:Func)(args:List AV)(an:List An)(ls:List LA):Option (aa0×List Prop):=match fn.body with
 |none=>none
 |some c=>match bW E c ⟨args++List.replicate (fn.ntmps - args.length) (.dt (.val undef)),[]⟩ an ls with
  |some (.out _,_)=>none
  |none=>none
  |some (_,s,ps,_,_)=>match kW E.P s fn.results.toList with
   |some [.ax es]=>some (es,ps)
   |_=>none
theorem b2M{E:En}(hG:∀w w',E.G w→Below w.heap.size w w'→E.G w'){f:FuncId}{fn:Func}(hf:E.P.funcs[f]?=some fn)(hn:(fn.name == "runtime.NumGoroutine")=false)
  {args:List AV} {an:List An} {ls:List LA} {es:aa0} {ps:List Prop} (h:XD E fn args an ls=some (es,ps)) (hp:K7 ps):sF E.P E.G f args (.ax es):=by
 unfold XD at h;have key:∃c e s J9 ls',fn.body=some c∧bW E c ⟨args++List.replicate (fn.ntmps - args.length) (.dt (.val undef)),[]⟩ an ls=some (e,s,ps,J9,ls')∧(∀i,e≠.out i)∧kW E.P s fn.results.toList=some [.ax es]:=by
  split at h
  ·cases h
  ·rename_i c hb;split at h
   ·cases h
   ·cases h
   ·rename_i e s ps' J9 ls' hne hc;split at h
    ·rename_i es' hcs;cases h;exact⟨c,e,s,J9,ls',hb,hc,fun i he=>by subst he;exact hne _ rfl,hcs⟩
    ·cases h
 obtain⟨c,e,s,J9,ls',hb,hc,hne,hcs⟩:=key;refine⟨⟨fn,hf,by rw[hb];rfl,hn⟩,fun ok w vs hw hargs=>?_⟩;obtain⟨hlen,Aq⟩:=Cy hc hp;have hal:=hargs.len;refine calls_of_wp hf hb (wp_mono (Aq (fun _=>False) w.heap.size (w,M0 fun b=>ok b∧b < w.heap.size) ok _ w ⟨fun w' hb=>hG w w' hw hb.below,fun _ _=>⟨rfl,rfl⟩⟩ ⟨M0 fun b=>ok b∧b < w.heap.size,?_⟩) ?_)
 ·have kX:∀b x,(AS.mk (args++List.replicate (fn.ntmps - args.length) (.dt (.val undef))) []).E9 b≠some x:=fun b x h=>by simp[AS.E9]at h
  refine⟨W9.refl _ _ _,PP _,rfl,?_,?_,⟨fun b x h=>absurd h (kX b x),fun b x _ h=>absurd h (kX b x),fun b _ x _ _ h=>absurd h (kX b x),(fun b g h=>by cases h),(fun b v h=>by cases h),fun b hb=>hb.2⟩,fun b hb _=>.inl hb.1,P5.refl _ _ _ _⟩
  ·simp[hal]
  ·intro t;have hargs':RL (M0 fun b=>ok b∧b < w.heap.size) w args vs:=RL.vI (fun b hb hl=>⟨hb,hl⟩) hargs;by_cases ht:t < args.length
   ·obtain⟨u,hu1,hu2⟩:=hargs'.get (i:=t) (c:=args[t]) (ww ht);have e1:(AS.mk (args++List.replicate (fn.ntmps - args.length) (.dt (.val undef))) []).G9 t=args[t]:=by
     unfold AS.G9;simp[ZaD ht,ht]
    have e2:(vs.toArray++Array.replicate (fn.ntmps - vs.toArray.size) undef).getD t undef=u:=by
     have ht':t < vs.length:=J;simp only[ZaK];rw[Array.getElem?_append_left (by simpa using ht')];simp[hu1]
    rw[e1,e2];exact hu2
   ·have e1:(AS.mk (args++List.replicate (fn.ntmps - args.length) (.dt (.val undef))) []).G9 t=.dt (.val undef):=by
     unfold AS.G9;rw[AC,ZaI J,List.getElem?_replicate];split <;> rfl
    have e2:(vs.toArray++Array.replicate (fn.ntmps - vs.toArray.size) undef).getD t undef=undef:=by
     simp only[ZaK];rw[Array.getElem?_append_right (by simp;omega),Array.getElem?_replicate];split <;> rfl
    rw[e1,e2];exact rX
 ·rintro x a' w' ⟨rfl,M,hI⟩;obtain⟨us,h1,u,Gf,rfl,⟨A,hA,hr⟩,hu2⟩:=yG hI hcs;obtain rfl:Gf=[]:=hu2;have hR:∃v,(results fn a'.tmps).run E.P w'=.ok v w'∧(fun e w'=>∃v,e=Ending.returned v∧Below w.heap.size w w'∧RV (M0 fun b=>ok b∨w.heap.size≤b) w' (.ax es) v) (.returned v) w':=by
   refine⟨_,Ii h1,_,rfl,hI.below.below,A,hA,?_⟩;subst hA;refine hr.mono fun b hb _=>?_
   by_cases e:b < w.heap.size
   ·rcases hI.src b hb e with h | h
    ·exact .inl h
    ·exact h.elim
   ·exact .inr J
  cases e with
  |F6=>exact⟨hI.defers,hR⟩
  |ret=>exact⟨hI.defers,hR⟩
  |out i=>exact absurd rfl (hne i)
theorem y7.Z9{E:En}{c:Code}{s s':AS}{e:AE}(t:Nat)(T:TypeId)(kk:Nat)(hl:t < s.tm.length)(ht:s.G9 t=.nil)(h:y7 E c ⟨s.tm.set t (.own s.bx.length 0),s.bx++[some (.buf T kk [])]⟩ e s'):y7 E c s e s':=by
 obtain⟨h1,h2⟩:=h;have hlen:(s.tm.set t (.own s.bx.length 0)).length=s.tm.length:=List.length_set ..;refine⟨h1.trans hlen,fun X n0 w0 ok0 a w hG ⟨M,hI⟩=>?_⟩;have hb:s.E9 s.bx.length=none:=by unfold AS.E9;rw[Za4 (PP _)]
 have hI2:=hI.Z9 ht hb T kk;have e1:(AS.mk (s.tm.set t (.own s.bx.length 0)) (s.bx++[some (.buf T kk [])])).G9=fun i=>if i=t then .own s.bx.length 0 else s.G9 i:=by
  funext i;unfold AS.G9;by_cases hi:i=t
  ·subst hi;simp[List.getD_eq_getElem?_getD,hl]
  ·simp[List.getD_eq_getElem?_getD,ZaJ hi,hi]
 have e2:(AS.mk (s.tm.set t (.own s.bx.length 0)) (s.bx++[some (.buf T kk [])])).E9=Z8 s.E9 s.bx.length (.buf T kk []):=by
  funext k;unfold AS.E9;by_cases hk:k=s.bx.length
  ·subst hk;simp
  ·simp only[EQ hk];rcases Za5 k s.bx.length with hlt | hge
   ·rw[ZaD hlt]
   ·rw[Za4 (by simp;omega),Za4 hge]
 have hL:Left X n0 w0 ok0 (AS.mk (s.tm.set t (.own s.bx.length 0)) (s.bx++[some (.buf T kk [])])).tm.length (AS.mk (s.tm.set t (.own s.bx.length 0)) (s.bx++[some (.buf T kk [])])).G9 (AS.mk (s.tm.set t (.own s.bx.length 0)) (s.bx++[some (.buf T kk [])])).E9 a w:=by
  rw[e1,e2,show (AS.mk (s.tm.set t (.own s.bx.length 0)) (s.bx++[some (.buf T kk [])])).tm.length=s.tm.length from hlen]
  exact⟨_,hI2⟩
 have:=h2 X n0 w0 ok0 a w hG hL;rw[show (AS.mk (s.tm.set t (.own s.bx.length 0)) (s.bx++[some (.buf T kk [])])).tm.length=s.tm.length from hlen]at this
 exact this
theorem y7.Bi{E:En}{c:Code}{s s':AS}{e:AE}(t b:Nat){T:TypeId}{kk:Nat}{es:aa0}(htl:t < s'.tm.length)(hb:s'.bx[b]?=some (some (.buf T kk es)))(ht:s'.G9 t=.own b es.length)(h:y7 E c s e s'):y7 E c s e ⟨s'.tm.set t (.dt (.row es)),s'.bx.set b (some (.aI es))⟩:=by
 obtain⟨h1,h2⟩:=h;refine⟨(List.length_set ..).trans h1,fun X n0 w0 ok0 a w hG hL=>wp_mono (h2 X n0 w0 ok0 a w hG hL) ?_⟩;rintro x a' w' ⟨rfl,M,hI⟩;refine⟨rfl,?_⟩;have hbl:b < s'.bx.length:=(UV.1 hb).1;have hbf:s'.E9 b=some (.buf T kk es):=by unfold AS.E9;rw[hb]
 obtain⟨M',g,hS,hm,ho,hF⟩:=hI.I9.Bi hbf;have e1:(AS.mk (s'.tm.set t (.dt (.row es))) (s'.bx.set b (some (.aI es)))).G9=fun i=>if i=t then .dt (.row es) else s'.G9 i:=by
  funext i;unfold AS.G9;by_cases hi:i=t
  ·subst hi;simp[List.getD_eq_getElem?_getD,htl]
  ·simp[List.getD_eq_getElem?_getD,ZaJ hi,hi]
 have e2:(AS.mk (s'.tm.set t (.dt (.row es))) (s'.bx.set b (some (.aI es)))).E9=Z8 s'.E9 b (.aI es):=by
  funext k;unfold AS.E9;by_cases hk:k=b
  ·subst hk;simp[hbl]
  ·simp only[EQ hk];rw[List.getElem?_set_ne (ZaJ hk)]
 rw[e1,e2];refine⟨M',hI.below,hI.le,hI.defers,hI.size,fun i=>?_,hS,fun q hq hl=>?_,hI.iI.trans g⟩
 ·by_cases hi:i=t
  ·subst hi;have hv:=hI.tmps i;rw[ht]at hv;obtain⟨A,c1,A',n',c',hv1,hv2,hv3,hv4⟩:=hv;obtain⟨A2,n2,c2,k1,k2⟩:=hS.box b (.aI es) (Ch rfl);rw[ho,hv2]at k1;cases k1;have hn:=k2.len;obtain⟨rfl,rfl⟩:=hv4 hn;show RV _ _ (if i=i then _ else _) _;rw[Ch rfl,hv1,hn];exact k2
  ·show RV _ _ (if i=t then _ else _) _;rw[EQ hi];exact RV.go g _ _ (hI.tmps i)
 ·rcases hF q hq with e | e | e
  ·exact hI.src q e hl
  ·omega
  ·exact .inr e
theorem aV.Z9{P:Program}{G:World→Prop}{f:FuncId}{args:List AV}{cs:List AV}{T:TypeId}{kk:Nat}{r:AV}{xs':List (Option Bx)}(h:aV P G f args [some (.cells (.own 1 0::cs)),some (.buf T kk [])] r xs'):aV P G f args [some (.cells (.nil::cs))] r xs':=by
 refine⟨h.1,fun X M w vs hG hS hargs=>?_⟩;have hk:lk [some (.cells (.nil::cs))] 1=none:=rfl;have g:P5 X w.heap.size M w (M.Z9 1) w:=DF hS hk;have hS2:=Jq hS (PP _) hk T kk;have hb0:Z8 (lk [some (.cells (.nil::cs))]) 1 (.buf T kk []) 0=some (.cells (.nil::cs)):=rfl;have far:∀b,Z8 (lk [some (.cells (.nil::cs))]) 1 (.buf T kk []) (b+2)=none:=fun b=>by
  show (if b+2=1 then _ else _)=_;rw[EQ J];rfl
 have e0:∀b x,b≠0→lk [some (.cells (.own 1 0::cs)),some (.buf T kk [])] b=some x→Z8 (lk [some (.cells (.nil::cs))]) 1 (.buf T kk []) b=some x:=by
  intro b x hb hx
  match b,hb with
  |1,_=>exact hx
  |b+2,_=>simp[lk]at hx
 have old:∀b x q,lk [some (.cells (.own 1 0::cs)),some (.buf T kk [])] b=some x→Hx (M.Z9 1) b x q→∃y,Z8 (lk [some (.cells (.nil::cs))]) 1 (.buf T kk []) b=some y∧Hx (M.Z9 1) b y q:=by
  intro b x q hx hq;by_cases hb:b=0
  ·subst hb;cases hx;exact⟨_,hb0,hq⟩
  ·exact⟨x,e0 b x hb hx,hq⟩
 have hS3:aa X w.heap.size (M.Z9 1) (lk [some (.cells (.own 1 0::cs)),some (.buf T kk [])]) w:=by
  refine⟨fun b x hx=>?_,fun b x q hx hq=>?_,fun b b' x x' q h1 h2 h3 h4=>?_,fun b q hq=>?_,fun b v hv=>?_,hS2.fz⟩
  ·by_cases hb:b=0
   ·subst hb;cases hx;obtain⟨gg,T',us,k1,k2,u,Gf,rfl,k3,k4⟩:=hS2.box 0 _ hb0;exact⟨gg,T',_,k1,k2,u,Gf,rfl,⟨none,0,none,0,0,k3,M.DD 1,PP _,fun _=>⟨rfl,rfl⟩⟩,k4⟩
   ·exact hS2.box b x (e0 b x hb hx)
  ·obtain⟨y,h1,h2⟩:=old b x q hx hq;exact hS2.dom b y q h1 h2
  ·obtain⟨y,k1,k2⟩:=old b x q h1 h3;obtain⟨y',k1',k2'⟩:=old b' x' q h2 h4;exact hS2.inj b b' y y' q k1 k1' k2 k2'
  ·obtain⟨x,h1,h2⟩:=hS2.hm b q hq
   match b,h1 with
   |0,_=>exact⟨_,rfl,rfl⟩
   |1,h1=>exact⟨x,h1,h2⟩
   |b+2,h1=>rw[far b]at h1;cases h1
  ·have h1:=hS2.ho b v hv
   match b,h1 with
   |0,_=>rfl
   |1,_=>rfl
   |b+2,h1=>rw[far b]at h1;cases h1
 refine (h.2 X (M.Z9 1) w vs hG hS3 (RL.go g _ _ hargs)).mono fun e w' ⟨v,M',h1,h2,h3,h4,h5⟩=>⟨v,M',h1,g.trans h2,h3,fun b hb=>h4 b hb,h5⟩
end Go.Proofs.YtbpmpdadppamgaaGreatDoor
namespace Go.Proofs.YtbpmpdadppamgaaGreatDoor
open Go.Proofs.Tryz
open Go.RowKit
open Te
abbrev K3(l:List Te):aa0:=l.map Te.enc
abbrev K9(cs:aa0)(ex er:Int):List (Option Bx):=[some (.cells [.own 1 cs.length,j4 ex,j4 er]),some (.buf 28 1 cs)]
abbrev J6(s:NS):List (Option Bx):=K9 (s.out.map dF) s.ex s.er
theorem sJ(l:List Te):L8 11 (K3 l):=by
 intro x hx;obtain⟨t,_,rfl⟩:=Zaw.1 hx;rw[mf];refine⟨rfl,fun d hd=>?_⟩;simp only[Za3,Zat,Zb4]at hd;rcases hd with rfl | rfl | rfl | rfl | rfl | rfl | rfl | rfl | rfl | rfl | rfl <;> rfl
theorem nC(t:Te):L8 11 [o8 t]:=gp t ▸ sJ [t]
theorem b2N(d:aa0):L8 1 [[.row d]]:=by
 intro x hx;rw[Cf]at hx;subst hx;exact⟨rfl,fun d hd=>by rw[Cf]at hd;subst hd;rfl⟩
theorem bE{b n:Nat}(hb:b≤200)(h:n≤1000000):P7 b n:=⟨by show n≤2 ^ 63 - 1;omega,by
 have:=Nat.mul_le_mul h hb;omega⟩
abbrev mM(qs ms:List Te)(cs:aa0)(ex er:Int)(es:aa0)(i:Int):AS:=⟨stt 48 [(0,.ptr 0 0),(2,C8 ms),(6,.own 2 es.length),(9,C8 qs),(10,j4 qs.length),(11,j4 i)],K9 cs ex er++[some (.buf 47 11 es)]⟩
noncomputable abbrev Gr:Code:=M6 (O4 f100) [1,0,1,0,0]
theorem b5w{qs ms:List Te}{x y:Te}{i:Nat}{es cs:aa0}{ex er:Int}(hx:qs[i]?=some x)(hl:qs.length≤100000)(he:es.length≤100000)(h:j5 29 [o6 x] (o6 y)):y7 (J3 2) Gr (mM qs ms cs ex er es i) .F6 (mM qs ms cs ex er (es++[o8 y]) ((i+1:Nat):Int)) :=
 tW [yT,.av (.pin ((o8 x).map .dt)),.av (o6 y),.av (.un),.av (j4 ((i+1:Nat):Int))] [] [0,2,6,9,10,11] 3 [Bt .lss 3 11 10 ↑i ↑qs.length bT,z8 (List.map Te.enc qs) ↑i 11 (o8 x),j5 29 [(o6 x)] (o6 y),(es.length)=(es.length),P7 176 ((es++[o8 y]).length),L8 11 [o8 y],Bk .add 3 11 1 ↑i (vi (↑(i+1)))]     ⟨D8 (Pi (by have:=(UV.1 hx).1;omega)),M5 hx,h,rfl,bE J (by simp;omega),nC y,H6 J J (by have:=(UV.1 hx).1;omega),Z⟩
theorem b5x{qs ms:List Te}{i:Nat}{es cs:aa0}{ex er:Int}(hi:i=qs.length):y7 (J3 2) Gr (mM qs ms cs ex er es i) (.out 0) (mM qs ms cs ex er es i) :=
 tW [yF] [] [0,2,6,9,10,11] 3 [Bt .lss 3 11 10 ↑i ↑qs.length bF]     ⟨D8 (WF J),Z⟩
theorem a7G{qs ms:List Te}{cs:aa0}{ex er:Int}(hl:qs.length≤100000):∀(s:List Te) (i:Nat) (es:aa0),qs.drop i=s→i≤qs.length→es.length=i→I7 (J3 2) Gr (mM qs ms cs ex er es i) (.out 0) (mM qs ms cs ex er (es++K3 (s.map neg)) qs.length):=by
 intro s
 induction s with
 |nil =>
  intro i es hd hi he;have e1:=congrArg List.length hd;rw[ut,List.length_nil]at e1;obtain rfl:i=qs.length:=J;rw[List.map_nil,show K3 []=[] from rfl,ZaB]
  exact .stop (b5x rfl) (fun h=>by cases h)
 |cons x s ih =>
  intro i es hd hi he;have hx:qs[i]?=some x:=by rw[←Za1,hd];rfl
  have hlt:=(UV.1 hx).1;have:=ih (i+1) (es++[o8 (neg x)]) (by rw[←Za0,hd];rfl) J (by simp[he]);rw[Zaf]at this;have e:[o8 (neg x)]++K3 (s.map neg)=K3 ((x::s).map neg):=by rw[gp];rfl
  rw[e]at this;exact .more (b5w hx hl J (zK x)) this
theorem b0g{qs ms:List Te}{cs:aa0}{ex er:Int}(hl:qs.length≤100000):y7 (J3 2) (.loop Gr) ⟨stt 48 [(0,.ptr 0 0),(2,C8 ms),(6,.nil),(9,C8 qs),(10,j4 qs.length),(11,j4 0)],K9 cs ex er⟩ (.out 0) (mM qs ms cs ex er (K3 (qs.map neg)) qs.length):=by
 have h:=(a7G (ms:=ms) (cs:=cs) (ex:=ex) (er:=er) hl qs 0 [] rfl (Ci _) rfl).I8;exact y7.Z9 6 47 11 (by show 6 < 48;omega) rfl h
theorem a7H(qs:List Te):(K3 (qs.map neg)).length=qs.length:=by simp[K3]
theorem b0h(s:NS)(qs ms:List Te)(hl:qs.length≤100000)(hm:ms.length≤1000)(ho:s.out.length≤400):D6 100 [.ptr 0 0,C8 qs,C8 ms] (J6 s) (.l7 []) (J6 (s.fail id (qs.map neg++ms))):=by
 obtain⟨out,ex,er⟩:=s;dsimp only at ho;have ht:=b0g (ms:=ms) (cs:=out.map dF) (ex:=ex) (er:=er) hl;have hlen:=a7H qs;have hc:(qs.map neg++ms).length=(K3 (qs.map neg)).length+ms.length:=by rw[hlen];simp
 have happ:K3 (qs.map neg)++K3 ms=K3 (qs.map neg++ms):=Zam.symm;unfold NS.fail;rw[id,hc];generalize K3 (qs.map neg)=es at *;have hsz:((es.length+ms.length:Nat):Int)=((es++List.map Te.enc ms).length:Int):=by rw[lm,Cc]
 by_cases h1:60 < es.length+ms.length
 ·rw[Ch (.inl h1)];generalize out.map dF=cs at *;exact sW 2 [0,1] [.av (j4 qs.length),.av (.un),.av (j4 (es.length+ms.length:Nat)),yT] [.inv [0,2,6,9,10,11] 2 (.out 0) (mM qs ms cs ex er es qs.length)] [(vi ↑qs.length)=(vi (↑(List.map Te.enc qs).length)),_,(es.length)=(es.length),P7 176 ((es++List.map Te.enc ms).length),L8 11 (List.map Te.enc ms),(vi (↑(es.length+ms.length)))=(vi (↑(es++List.map Te.enc ms).length)),Bk .gtr 3 25 60 (↑(es.length+ms.length)) bT] func100 ⟨F9 _,ht,rfl,bE J (by rw[←Int.natCast_inj.1 hsz];omega),sJ ms,congrArg _ hsz,K4 (Pi J),Z⟩
 have hout:(out.map dF).length=out.length:=Cc ..;have hadd:(out++[qs.map neg++ms]).map dF=out.map dF++[[.row (K3 (qs.map neg++ms))]]:=by rw[Zam];rfl
 rw[←happ]at hadd;by_cases h2:400≤out.length
 ·rw[Ch (.inr h2)];generalize out.map dF=cs at *;exact sW 2 [0,1] [.av (j4 qs.length),.av (.un),.av (j4 (es.length+ms.length:Nat)),yF,.no,yT] [.inv [0,2,6,9,10,11] 2 (.out 0) (mM qs ms cs ex er es qs.length)] [(vi ↑qs.length)=(vi (↑(List.map Te.enc qs).length)),_,(es.length)=(es.length),P7 176 ((es++List.map Te.enc ms).length),L8 11 (List.map Te.enc ms),(vi (↑(es.length+ms.length)))=(vi (↑(es++List.map Te.enc ms).length)),Bk .gtr 3 25 60 (↑(es.length+ms.length)) bF,Bk .geq 3 32 400 ↑cs.length bT] func100 ⟨F9 _,ht,rfl,bE J (by rw[←Int.natCast_inj.1 hsz];omega),sJ ms,congrArg _ hsz,K4 (WF J),U0 (Pi J),Z⟩
 ·rw[EQ (fun h=>h.elim h1 h2)];show D6 _ _ _ _ (K9 ((out++[qs.map neg++ms]).map dF) ex er);rw[hadd];generalize out.map dF=cs at *;exact sW 2 [0,1] [.av (j4 qs.length),.av (.un),.av (j4 (es.length+ms.length:Nat)),yF,.no,yF,.av (.un)] [.inv [0,2,6,9,10,11] 2 (.out 0) (mM qs ms cs ex er es qs.length)] [(vi ↑qs.length)=(vi (↑(List.map Te.enc qs).length)),_,(es.length)=(es.length),P7 176 ((es++List.map Te.enc ms).length),L8 11 (List.map Te.enc ms),(vi (↑(es.length+ms.length)))=(vi (↑(es++List.map Te.enc ms).length)),Bk .gtr 3 25 60 (↑(es.length+ms.length)) bF,Bk .geq 3 32 400 ↑cs.length bF,((es++List.map Te.enc ms).length)=((es++List.map Te.enc ms).length),(cs.length)=(cs.length),P7 24 ((cs++[[Dt.row (es++List.map Te.enc ms)]]).length),L8 1 [[(.row (es++List.map Te.enc ms))]]] func100 ⟨F9 _,ht,rfl,bE J (by rw[←Int.natCast_inj.1 hsz];omega),sJ ms,congrArg _ hsz,K4 (WF J),U0 (WF J),rfl,rfl,bE J (by simp;omega),b2N _,Z⟩
end Go.Proofs.YtbpmpdadppamgaaGreatDoor
