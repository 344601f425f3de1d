/- The visitor of guard obligations: visit, Obligations. -/
import Derived.Test.YthhknjlmjefklaaGreatDoorMP
import Derived.Test.YthhknjlmjefklaaGreatDoorMO
import Derived.Test.YthhknjlmjefklaaGreatDoorMM
import Derived.Test.YthhknjlmjefklaaGreatDoorMI
namespace Go.Proofs.YthhknjlmjefklaaGreatDoor
open Go.RowKit
open Te
abbrev vhS (ws:List (List Dt)) (hd ts:List Te) (t:Te) (cs:List (List Dt)) (i:Int):AS:=⟨stt 138 [(0,.ptr 0 0),(2,tesA ts),(4,.ptr 2 0),(67,tesA t.args),(68,inA t.args.length),(69,inA i)],vbX ws hd cs++[some (.cells ((encT t).map .dt))]⟩
noncomputable abbrev vhB:Code:=subC (bodyOf Tryz.f58) [1,1,1,0,1,0,0]
theorem vhB1 {ws:List (List Dt)} {hd ts:List Te} {t x:Te} {cs cs':List (List Dt)} {i:Nat} (hx:t.args[i]?=some x) (hl:t.args.length≤1000) (h:Suk visF [.ptr 0 0,teA x,tesA ts] (vbX ws hd cs) (.tup []) (vbX ws hd cs')):Tri (EXn 2) vhB (vhS ws hd ts t cs i) .nxt (vhS ws hd ts t cs' ((i+1:Nat):Int)) :=
 have hi:=(List.getElem?_eq_some_iff.1 hx).1
 tw (E:=EXn 2) (c:=subC (bodyOf Tryz.f58) [1,1,1,0,1,0,0]) (s:=vhS ws hd ts t cs i) (an:=[yT,.av (.pin ((encT x).map .dt)),.av (inA ((i+1:Nat):Int))]) (ls:=[.scl 9 3 [0,1] (.tup []) [some (.cells [.dt (.row ws),tesA hd,.own 1 cs'.length]),some (.buf 81 1 cs')]]) (ft:=[0,2,4,67,68,69]) (nb:=3) (e:=.nxt) (s':=vhS ws hd ts t cs' ((i+1:Nat):Int)) (ps:=[Bn .lss 3 (.tmp 69) (.tmp 68) (vi ↑i) (vi ↑t.args.length) bT,IxAt (List.map Te.enc t.args) ↑i 11 (encT x),Suk 58 [AV.ptr 0 0,teA x,AV.dt (Dt.row (List.map Te.enc ts))] [some (Bx.cells [AV.dt (Dt.row ws),AV.dt (Dt.row (List.map Te.enc hd)),AV.own 1 cs.length]),some (Bx.buf 81 1 cs)] (AV.tup []) [some (Bx.cells [AV.dt (Dt.row ws),tesA hd,AV.own 1 cs'.length]),some (Bx.buf 81 1 cs')],Bn .add 3 (.tmp 69) (.const (vi 1)) (vi ↑i) (vi 1) (vi (↑(i+1)))]) (by kernel_rfl) ⟨bin_ilt (decide_eq_true (by omega)),ix_te hx,h,bin_iadd (by omega) (by omega) (by omega),trivial⟩
theorem vhB3 {ws:List (List Dt)} {hd ts:List Te} {t:Te} {cs:List (List Dt)} {i:Nat} (hi:i=t.args.length):Tri (EXn 2) vhB (vhS ws hd ts t cs i) (.out 0) (vhS ws hd ts t cs i) :=
 tw (E:=EXn 2) (c:=subC (bodyOf Tryz.f58) [1,1,1,0,1,0,0]) (s:=vhS ws hd ts t cs i) (an:=[yF]) (ls:=[]) (ft:=[0,2,4,67,68,69]) (nb:=3) (e:=.out 0) (s':=vhS ws hd ts t cs i) (ps:=[Bn .lss 3 (.tmp 69) (.tmp 68) (vi ↑i) (vi ↑t.args.length) bF]) (by kernel_rfl) ⟨bin_ilt (decide_eq_false (by omega)),trivial⟩
theorem w_vi0 {ws:List (List Dt)} {hd ts:List Te} {t:Te} {cs:List (List Dt)} (h:t.kind≠3):Suk visF [.ptr 0 0,teA t,tesA ts] (vbX ws hd cs) (.tup []) (vbX ws hd cs) :=
 psw (n:=2) (ks:=[0,1]) (an:=[yT]) (ls:=[]) (ps:=[Bn .neq 3 (.tmp 17) (.const (vi 3)) (vi t.kind) (vi 3) bT]) Tryz.func58 (by kernel_rfl) (by kernel_rfl) ⟨bin_ine (by simp [h]),trivial⟩
theorem w_vi1 {ws:List (List Dt)} {hd ts:List Te} {t a b c:Te} {cs c1 c2 c3:List (List Dt)} (h:is t ifB 3) (hl:ts.length≤1000) (ha:t.args[0]?=some a) (hb:t.args[1]?=some b) (hc:t.args[2]?=some c) (h1:Suk visF [.ptr 0 0,teA a,tesA ts] (vbX ws hd cs) (.tup []) (vbX ws hd c1)) (h2:Suk visF [.ptr 0 0,teA b,tesA (ts++[a])] (vbX ws hd c1) (.tup []) (vbX ws hd c2)) (h3:Suk visF [.ptr 0 0,teA c,tesA (ts++[ap notB [a]])] (vbX ws hd c2) (.tup []) (vbX ws hd c3)):Suk visF [.ptr 0 0,teA t,tesA ts] (vbX ws hd cs) (.tup []) (vbX ws hd c3) :=
 have g1:=h.1
 have g2:=h.2.1
 have g3:=h.2.2.1
 have g4:=h.2.2.2
 psw (n:=2) (ks:=[0,1]) (an:=[yF,yT,.av (inA t.args.length),yT,.av (.pin ((encT a).map .dt)),.av (.pin ((encT b).map .dt)),.av (.ful (encTs ts)),.av (.pin ((encT a).map .dt)),.av (.un),.av (.pin ((encT c).map .dt)),.av (.ful (encTs ts)),.av (.pin ((encT a).map .dt)),.av (teA (ap notB [a])),.av (.un)]) (ls:=[.scl 3 6 [0,1] (.tup []) [some (.cells [.dt (.row ws),tesA hd,.own 1 c1.length]),some (.buf 81 1 c1)],.scl 4 13 [0,1] (.tup []) [some (.cells [.dt (.row ws),tesA hd,.own 1 c2.length]),some (.buf 81 1 c2)],.scl 5 15 [0,1] (.tup []) [some (.cells [.dt (.row ws),tesA hd,.own 1 c3.length]),some (.buf 81 1 c3)]]) (ps:=[Bn .neq 3 (.tmp 17) (.const (vi 3)) (vi t.kind) (vi 3) bF,Bn .eql 28 (.tmp 20) (.tmp 21) (Value.agg #[str t.np,str t.nn]) (Value.agg #[Value.string { data:=#[108,105,115,112]:ByteArray },Value.string { data:=#[105,102]:ByteArray }]) bT,(vi ↑t.args.length)=(vi (↑(List.map Te.enc t.args).length)),Bn .eql 3 (.tmp 26) (.const (vi 3)) (vi ↑t.args.length) (vi 3) bT,IxAt (List.map Te.enc t.args) 0 11 (encT a),Suk 58 [AV.ptr 0 0,teA a,AV.dt (Dt.row (List.map Te.enc ts))] [some (Bx.cells [AV.dt (Dt.row ws),AV.dt (Dt.row (List.map Te.enc hd)),AV.own 1 cs.length]),some (Bx.buf 81 1 cs)] (AV.tup []) [some (Bx.cells [AV.dt (Dt.row ws),tesA hd,AV.own 1 c1.length]),some (Bx.buf 81 1 c1)],IxAt (List.map Te.enc t.args) 1 11 (encT b),Puk 94 [(.dt (.row (List.map Te.enc ts)))] (.ful (encTs ts)),IxAt (List.map Te.enc t.args) 0 11 (encT a),1≤(([encT a]).length),FitB 176 ((encTs ts++[encT a]).length),SrcOK 11 (encTs ts++[encT a]),Suk 58 [AV.ptr 0 0,teA b,AV.dt (Dt.row (encTs ts++[encT a]))] [some (Bx.cells [AV.dt (Dt.row ws),AV.dt (Dt.row (List.map Te.enc hd)),AV.own 1 c1.length]),some (Bx.buf 81 1 c1)] (AV.tup []) [some (Bx.cells [AV.dt (Dt.row ws),tesA hd,AV.own 1 c2.length]),some (Bx.buf 81 1 c2)],((encTs ts++[encT a]).length)=((encTs ts++[encT a]).length),IxAt (List.map Te.enc t.args) 2 11 (encT c),Puk 94 [(.dt (.row (List.map Te.enc ts)))] (.ful (encTs ts)),IxAt (List.map Te.enc t.args) 0 11 (encT a),Puk 43 [(stA [110,111,116]),(.dt (.row [encT a]))] (teA (ap notB [a])),1≤(([encT (ap notB [a])]).length),FitB 176 ((encTs ts++[encT (ap notB [a])]).length),SrcOK 11 (encTs ts++[encT (ap notB [a])]),Suk 58 [AV.ptr 0 0,teA c,AV.dt (Dt.row (encTs ts++[encT (ap notB [a])]))] [some (Bx.cells [AV.dt (Dt.row ws),AV.dt (Dt.row (List.map Te.enc hd)),AV.own 1 c2.length]),some (Bx.buf 81 1 c2)] (AV.tup []) [some (Bx.cells [AV.dt (Dt.row ws),tesA hd,AV.own 1 c3.length]),some (Bx.buf 81 1 c3)],((encTs ts++[encT (ap notB [a])]).length)=((encTs ts++[encT (ap notB [a])]).length)]) Tryz.func58 (by kernel_rfl) (by kernel_rfl) ⟨bin_ine (by simp [g1]),bin_syeq (by rw [decide_eq_true g2,decide_eq_true g3];rfl),lenEncT _,bin_ieq (decide_eq_true (by omega)),ix_te ha,h1,ix_te hb,p_clip ts (by omega),ix_te ha,Nat.le_refl 1,fit_of (by omega) (by simp;omega),enc_snoc ts a ▸ src_te _,enc_snoc ts a ▸ h2,rfl,ix_te hc,p_clip ts (by omega),ix_te ha,p_tLisp1 notB a,Nat.le_refl 1,fit_of (by omega) (by simp;omega),enc_snoc ts (ap notB [a]) ▸ src_te _,enc_snoc ts (ap notB [a]) ▸ h3,rfl,trivial⟩
theorem w_vi2 {ws:List (List Dt)} {hd ts C:List Te} {t:Te} {cs c1 c2:List (List Dt)} {k1 k2:Int} (h:t.kind=3) (hn:¬ (t.np=lispB∧t.nn=ifB)) (h1:Tri (EXn 2) (.loop vhB) (vhS ws hd ts t cs 0) (.out 0) (vhS ws hd ts t c1 k1)) (hg:Puk gcF [.dt (.row ws),syA t.np t.nn,tesA t.args] (tesA C)) (h2:Tri (EXn 2) (.loop vgB) (vgS ws hd ts C c1 0) (.out 2) (vgS ws hd ts C c2 k2)):Suk visF [.ptr 0 0,teA t,tesA ts] (vbX ws hd cs) (.tup []) (vbX ws hd c2) :=
 psw (n:=2) (ks:=[0,1]) (an:=[yF,yF,.av (inA t.args.length),.av (tesA C),.av (inA C.length)]) (ls:=[.inv [0,2,4,67,68,69] 3 (.out 0) (vhS ws hd ts t c1 k1),.inv [0,2,86,87,88] 2 (.out 2) (vgS ws hd ts C c2 k2)]) (ps:=[Bn .neq 3 (.tmp 17) (.const (vi 3)) (vi t.kind) (vi 3) bF,Bn .eql 28 (.tmp 20) (.tmp 21) (Value.agg #[str t.np,str t.nn]) (Value.agg #[Value.string { data:=#[108,105,115,112]:ByteArray },Value.string { data:=#[105,102]:ByteArray }]) bF,(vi ↑t.args.length)=(vi (↑(List.map Te.enc t.args).length)),Tri (EXn 2) (.loop (subC (bodyOf Tryz.f58) [1,1,1,0,1,0,0])) (vhS ws hd ts t cs 0) (.out 0) (vhS ws hd ts t c1 k1),Puk 14 [(.dt (.row ws)),(syA t.np t.nn),(.dt (.row (List.map Te.enc t.args)))] (.dt (.row (List.map Te.enc C))),(vi ↑C.length)=(vi (↑(List.map Te.enc C).length)),Tri (EXn 2) (.loop (subC (bodyOf Tryz.f58) [1,1,1,1,1,0,0])) (vgS ws hd ts C c1 0) (.out 2) (vgS ws hd ts C c2 k2)]) Tryz.func58 (by kernel_rfl) (by kernel_rfl) ⟨bin_ine (by simp [h]),bin_syeq (sy_no hn),lenEncT _,h1,hg,lenEncT _,h2,trivial⟩
theorem w_vi3 {ws:List (List Dt)} {hd ts C:List Te} {t:Te} {cs c1 c2:List (List Dt)} {k1 k2:Int} (h:t.kind=3) (hn:t.np=lispB∧t.nn=ifB) (h3:¬ t.args.length=3) (h1:Tri (EXn 2) (.loop vhB) (vhS ws hd ts t cs 0) (.out 0) (vhS ws hd ts t c1 k1)) (hg:Puk gcF [.dt (.row ws),syA t.np t.nn,tesA t.args] (tesA C)) (h2:Tri (EXn 2) (.loop vgB) (vgS ws hd ts C c1 0) (.out 2) (vgS ws hd ts C c2 k2)):Suk visF [.ptr 0 0,teA t,tesA ts] (vbX ws hd cs) (.tup []) (vbX ws hd c2) :=
 psw (n:=2) (ks:=[0,1]) (an:=[yF,yT,.av (inA t.args.length),yF,.av (inA t.args.length),.av (tesA C),.av (inA C.length)]) (ls:=[.inv [0,2,4,67,68,69] 3 (.out 0) (vhS ws hd ts t c1 k1),.inv [0,2,86,87,88] 2 (.out 2) (vgS ws hd ts C c2 k2)]) (ps:=[Bn .neq 3 (.tmp 17) (.const (vi 3)) (vi t.kind) (vi 3) bF,Bn .eql 28 (.tmp 20) (.tmp 21) (Value.agg #[str t.np,str t.nn]) (Value.agg #[Value.string { data:=#[108,105,115,112]:ByteArray },Value.string { data:=#[105,102]:ByteArray }]) bT,(vi ↑t.args.length)=(vi (↑(List.map Te.enc t.args).length)),Bn .eql 3 (.tmp 26) (.const (vi 3)) (vi ↑t.args.length) (vi 3) bF,(vi ↑t.args.length)=(vi (↑(List.map Te.enc t.args).length)),Tri (EXn 2) (.loop (subC (bodyOf Tryz.f58) [1,1,1,0,1,0,0])) (vhS ws hd ts t cs 0) (.out 0) (vhS ws hd ts t c1 k1),Puk 14 [(.dt (.row ws)),(syA t.np t.nn),(.dt (.row (List.map Te.enc t.args)))] (.dt (.row (List.map Te.enc C))),(vi ↑C.length)=(vi (↑(List.map Te.enc C).length)),Tri (EXn 2) (.loop (subC (bodyOf Tryz.f58) [1,1,1,1,1,0,0])) (vgS ws hd ts C c1 0) (.out 2) (vgS ws hd ts C c2 k2)]) Tryz.func58 (by kernel_rfl) (by kernel_rfl) ⟨bin_ine (by simp [h]),bin_syeq (by rw [decide_eq_true hn.1,decide_eq_true hn.2];rfl),lenEncT _,bin_ieq (decide_eq_false (by omega)),lenEncT _,h1,hg,lenEncT _,h2,trivial⟩
inductive Vt (ws:List (List Dt)):Te→Prop
 | leaf (t:Te) (h:t.kind≠3):Vt ws t
 | ap (n:List UInt8) (l:List Te) (hw:(Te.ap n l).Wf) (hl:l.length≤8) (hc:Puk gcF [.dt (.row ws),syA lispB n,tesA l] (tesA (cndT (Te.ap n l)))) (hcw:∀ c∈cndT (Te.ap n l),c.Wf) (hcl:(cndT (Te.ap n l)).length≤4) (h:∀ x∈l,Vt ws x):Vt ws (Te.ap n l)
theorem vis_ap (hd:List Te) (f:Nat) (n:List UInt8) (l ts:List Te) (hn:¬ is (Te.ap n l) ifB 3):vis hd (f+1) (Te.ap n l) ts=(l.map fun x=>vis hd f x ts).flatten++(cndT (Te.ap n l)).map fun c=>addN [] (hd++ts.map neg++[c]):=by
 rw [vis,if_pos (show (Te.ap n l).kind=3 from rfl),if_neg hn]
 rfl
theorem flat_len {α β:Type} (f:α→List β) (g:α→Nat):∀ (l:List α),(∀ x∈l,(f x).length≤g x)→(l.map f).flatten.length≤(l.map g).sum
 | [],_=>Nat.zero_le _
 | x::r,h=>by
  rw [List.map_cons,List.flatten_cons,List.length_append,List.map_cons,List.sum_cons]
  exact Nat.add_le_add (h x (List.mem_cons_self ..)) (flat_len f g r fun y hy=>h y (List.mem_cons_of_mem _ hy))
theorem sizeA_sum:∀ l:List Te,(l.map fun x=>4 * x.size).sum=4 * Te.sizeA l
 | []=>rfl
 | x::r=>by rw [List.map_cons,List.sum_cons,sizeA_sum r,Te.sizeA];omega
theorem vis_len {ws:List (List Dt)} (hd:List Te):∀ (f:Nat) (t:Te) (ts:List Te),Vt ws t→(vis hd f t ts).length≤4 * t.size:=by
 intro f
 induction f with
 | zero=>intro t ts _;exact Nat.zero_le _
 | succ f ih =>
  intro t ts ht
  cases ht with
  | leaf t h=>rw [vis,if_neg h];exact Nat.zero_le _
  | ap n l hw hl hc hcw hcl h =>
   have hsz:(Te.ap n l).size=Te.sizeA l+1:=by unfold Te.ap;rw [Te.size]
   by_cases hi:is (Te.ap n l) ifB 3
   ·obtain ⟨a,b,c,rfl⟩:=len3 (show l.length=3 from hi.2.2.2)
    rw [vis,if_pos (show (Te.ap n [a,b,c]).kind=3 from rfl),if_pos hi]
    have h1:=ih a ts (h a (by simp))
    have h2:=ih b (ts++[a]) (h b (by simp))
    have h3:=ih c (ts++[Te.ap notB [a]]) (h c (by simp))
    have e:Te.sizeA [a,b,c]=a.size+(b.size+(c.size+0)):=by simp only [Te.sizeA]
    rw [List.length_append,List.length_append,hsz,e]
    show (vis hd f a ts).length+(vis hd f b (ts++[a])).length+(vis hd f c (ts++[Te.ap notB [a]])).length≤_
    omega
   ·rw [vis_ap hd f n l ts hi,List.length_append,List.length_map,hsz]
    have h1:=flat_len (fun x=>vis hd f x ts) (fun x=>4 * x.size) l (fun x hx=>ih x ts (h x hx))
    rw [sizeA_sum] at h1
    omega
theorem encM (l:List (List Te)) (k:List (List Te)):l.map encC++k.map encC=(l++k).map encC:=List.map_append.symm
theorem p_visit {ws:List (List Dt)} {hd:List Te} (hhd:∀ x∈hd,x.Wf) (hl1:hd.length≤100) (hnw:∀ t:Te,t.Wf→(neg t).Wf) (hnw2:∀ t:Te,t.Wf→(Te.ap notB [t]).Wf):∀ (f:Nat) (t:Te) (ts:List Te) (cs:List (List Dt)),t.size≤f→Vt ws t→t.Wf→(∀ x∈ts,x.Wf)→ts.length+f≤600→cs.length+4 * t.size≤40000 →
  Suk visF [.ptr 0 0,teA t,tesA ts] (vbX ws hd cs) (.tup []) (vbX ws hd (cs++(vis hd f t ts).map encC)):=by
 intro f
 induction f with
 | zero=>intro t ts cs hs;have:=Te.size_pos t;omega
 | succ f ih =>
  intro t ts cs hs ht htw hts hf hcs
  cases ht with
  | leaf t h =>
   rw [vis,if_neg h,List.map_nil,List.append_nil]
   exact w_vi0 h
  | ap n l hw hl hc hcw hcl h =>
   have hsz:(Te.ap n l).size=Te.sizeA l+1:=by unfold Te.ap;rw [Te.size]
   have kw:∀ x∈l,x.Wf:=by
    cases htw with
    | mk _ hv hl h=>exact h
   by_cases hi:is (Te.ap n l) ifB 3
   ·obtain ⟨a,b,c,rfl⟩:=len3 (show l.length=3 from hi.2.2.2)
    have e:Te.sizeA [a,b,c]=a.size+(b.size+(c.size+0)):=by simp only [Te.sizeA]
    rw [hsz,e] at hs hcs
    have wa:=kw a (by simp)
    have wb:=kw b (by simp)
    have wc:=kw c (by simp)
    have va:=h a (by simp)
    have vb:=h b (by simp)
    have vc:=h c (by simp)
    have l1:=vis_len hd f a ts va
    have l2:=vis_len hd f b (ts++[a]) vb
    have h1:=ih a ts cs (by omega) va wa hts (by omega) (by omega)
    have h2:=ih b (ts++[a]) (cs++(vis hd f a ts).map encC) (by omega) vb wb (fun x hx=>by
     rcases List.mem_append.1 hx with hx | hx
     ·exact hts x hx
     ·rw [List.mem_singleton] at hx;subst hx;exact wa) (by simp;omega) (by simp;omega)
    have h3:=ih c (ts++[Te.ap notB [a]]) (cs++(vis hd f a ts).map encC++(vis hd f b (ts++[a])).map encC) (by omega) vc wc (fun x hx=>by
     rcases List.mem_append.1 hx with hx | hx
     ·exact hts x hx
     ·rw [List.mem_singleton] at hx;subst hx;exact hnw2 a wa) (by simp;omega) (by simp;omega)
    have k:=w_vi1 hi (by omega) (a:=a) (b:=b) (c:=c) rfl rfl rfl h1 h2 h3
    rw [vis,if_pos (show (Te.ap n [a,b,c]).kind=3 from rfl),if_pos hi]
    rw [List.append_assoc,List.append_assoc,encM,encM] at k
    rw [List.append_assoc]
    exact k
   ·rw [vis_ap hd f n l ts hi,← encM]
    have loop:∀ (q:List Te) (i:Nat) (cs:List (List Dt)),l.drop i=q→i≤l.length→cs.length+4 * Te.sizeA q≤40000→Lps (EXn 2) vhB (vhS ws hd ts (Te.ap n l) cs i) (.out 0) (vhS ws hd ts (Te.ap n l) (cs++((q.map fun x=>vis hd f x ts).flatten).map encC) l.length):=by
     intro q
     induction q with
     | nil =>
      intro i cs hd' hi' _
      have e1:=congrArg List.length hd'
      rw [List.length_drop,List.length_nil] at e1
      obtain rfl:i=l.length:=by omega
      rw [List.map_nil,List.flatten_nil,List.map_nil,List.append_nil]
      exact .stop (vhB3 rfl) (fun h=>by cases h)
     | cons x q ihq =>
      intro i cs hd' hi' hc'
      have hx:l[i]?=some x:=by rw [← List.head?_drop,hd'];rfl
      have hlt:=(List.getElem?_eq_some_iff.1 hx).1
      have hxm:=List.mem_of_getElem? hx
      have sx:=Te.sizeA_mem hxm
      rw [Te.sizeA] at hc'
      have lx:=vis_len hd f x ts (h x hxm)
      have h1:=ih x ts cs (by omega) (h x hxm) (kw x hxm) hts (by omega) (by omega)
      have k:=ihq (i+1) (cs++(vis hd f x ts).map encC) (by rw [← List.drop_drop,hd'];rfl) hlt (by simp;omega)
      rw [List.append_assoc cs,encM] at k
      exact .more (vhB1 (t:=Te.ap n l) hx (by show l.length≤1000;omega) h1) k
    have h1:=(loop l 0 cs rfl (Nat.zero_le _) (by omega)).tri
    have fl:=flat_len (fun x=>vis hd f x ts) (fun x=>4 * x.size) l (fun x hx=>vis_len hd f x ts (h x hx))
    rw [sizeA_sum] at fl
    have h2:=(vg_loop (ws:=ws) (hd:=hd) (ts:=ts) (C:=cndT (Te.ap n l)) (by omega) hhd (fun x hx=>hnw x (hts x hx)) hcw hl1 (by omega) _ 0 (cs++((l.map fun x=>vis hd f x ts).flatten).map encC) rfl (Nat.zero_le _) (by rw [List.length_append,List.length_map];omega)).tri
    rw [List.append_assoc cs] at h2
    by_cases hn:(Te.ap n l).np=lispB∧(Te.ap n l).nn=ifB
    ·exact w_vi3 (t:=Te.ap n l) rfl hn (fun e=>hi ⟨rfl,hn.1,hn.2,e⟩) h1 hc h2
    ·exact w_vi2 (t:=Te.ap n l) rfl hn h1 hc h2
end Go.Proofs.YthhknjlmjefklaaGreatDoor
namespace Go.Proofs.YthhknjlmjefklaaGreatDoor
open Go.RowKit
open Te
theorem lqB3 {es:List (List Dt)} {n:List UInt8} {i:Nat} {is:List (List Dt)} (h:IxAt es (i:Int) 32 (encP is)) (hi:i < es.length) (hl:es.length≤1000):Tri EX lcB (lcS es n i) .nxt (lcS es n ((i+1:Nat):Int)) :=
 twalk (c:=subC (bodyOf Tryz.f74) [1,0,1,0,0]) (s:=lcS es n i) (an:=[yT,.av (.pin ((encP is).map .dt)),.av (.dt (.row [])),.av (.tup [inA 0,boA false]),.av (inA ((i+1:Nat):Int))]) (ls:=[]) (ft:=[3,11,12,13]) (nb:=1) (e:=.nxt) (s':=lcS es n ((i+1:Nat):Int)) (ps:=[Bn .lss 3 (.tmp 13) (.tmp 12) (vi ↑i) (vi ↑es.length) bT,IxAt es ↑i 32 ([(.val (vi 1)),(.val (str lispB)),(.val (str [117,115,101,114,45,112,97,99,107,97,103,101])),(.val (str [117,115,101,114])),(.row is),(.val (str [])),(.val (str [])),(.row []),(.val bF),(.val (vi 0)),(.val (str [])),(.val (str [])),(.val (vi 0)),(.val (str [])),(.val (str [])),(.val (str [])),(.val (str [])),(.val (str [])),(.row []),(.row []),(.row []),(.row []),(.row []),(.row []),(.val (str [])),(.val (str [])),(.row []),(.row []),(.row []),(.row []),(.val (str [])),(.val (Value.int .u64 0))]),Puk 75 [(.agg [(inA 1),(stA lispB),(stA [117,115,101,114,45,112,97,99,107,97,103,101]),(stA [117,115,101,114]),(.dt (.row is)),(stA []),(stA []),(.dt (.row [])),(boA false),(inA 0),(stA []),(stA []),(inA 0),(stA []),(stA []),(stA []),(stA []),(stA []),(.dt (.row [])),(.dt (.row [])),(.dt (.row [])),(.dt (.row [])),(.dt (.row [])),(.dt (.row [])),(stA []),(stA []),(.dt (.row [])),(.dt (.row [])),(.dt (.row [])),(.dt (.row [])),(stA []),(.dt (.val (Value.int .u64 0)))])] (.dt (.row [])),Puk 110 [(.dt (.row [])),(.clf 111 [(.pin [(stA lispB),(stA n)])])] (.tup [(inA 0),(boA false)]),Bn .add 3 (.tmp 13) (.const (vi 1)) (vi ↑i) (vi 1) (vi (↑(i+1)))]) (by kernel_rfl) ⟨bin_ilt (decide_eq_true (by omega)),h,w_fnsP is,w_first0,bin_iadd (by omega) (by omega) (by omega),trivial⟩
theorem lqB4 {es:List (List Dt)} {n:List UInt8} {i:Nat} (hi:i=es.length):Tri EX lcB (lcS es n i) (.out 0) (lcS es n i) :=
 twalk (c:=subC (bodyOf Tryz.f74) [1,0,1,0,0]) (s:=lcS es n i) (an:=[yF]) (ls:=[]) (ft:=[3,11,12,13]) (nb:=1) (e:=.out 0) (s':=lcS es n i) (ps:=[Bn .lss 3 (.tmp 13) (.tmp 12) (vi ↑i) (vi ↑es.length) bF]) (by kernel_rfl) ⟨bin_ilt (decide_eq_false (by omega)),trivial⟩
theorem ix_P {ws:List Rdr.Fnc} {is:List (List Dt)}:IxAt (ws.map encE++[encP is]) (ws.length:Int) 32 (encP is):=⟨Int.natCast_nonneg _,by
 rw [Int.toNat_natCast,List.getElem?_append_right (by rw [List.length_map];exact Nat.le_refl _),List.length_map,Nat.sub_self]
 rfl,rfl⟩
theorem lq_no {ws:List Rdr.Fnc} {is:List (List Dt)} {n:List UInt8} (hl:(ws.map encE++[encP is]).length≤1000):∀ (s:List Rdr.Fnc) (i:Nat),ws.drop i=s→i≤ws.length→(s.find? fun f=>f.nm == n)=none→Lps EX lcB (lcS (ws.map encE++[encP is]) n i) (.out 0) (lcS (ws.map encE++[encP is]) n (ws.map encE++[encP is]).length):=by
 intro s
 have len:(ws.map encE++[encP is]).length=ws.length+1:=by rw [List.length_append,List.length_map];rfl
 induction s with
 | nil =>
  intro i hd hi _
  have e1:=congrArg List.length hd
  rw [List.length_drop,List.length_nil] at e1
  obtain rfl:i=ws.length:=by omega
  have st:=lqB3 (n:=n) (ix_P (ws:=ws) (is:=is)) (by omega) hl
  rw [len]
  exact .more st (.stop (lqB4 (by omega)) (fun h=>by cases h))
 | cons x s ih =>
  intro i hd hi h
  have hx:ws[i]?=some x:=by rw [← List.head?_drop,hd];rfl
  have hlt:=(List.getElem?_eq_some_iff.1 hx).1
  rw [List.find?_cons] at h
  split at h
  ·cases h
  ·rename_i e
   exact .more (lqB1 (ix_E hx) (by omega) hl (by simpa using e)) (ih (i+1) (by rw [← List.drop_drop,hd];rfl) hlt h)
theorem w_locN {es:List (List Dt)} {n:List UInt8} {k:Int} (h:Tri EX (.loop lcB) (lcS es n 0) (.out 0) (lcS es n k)):Puk 74 [.dt (.row es),syA lispB n] (.tup [inA 0,inA 0,boA false]) :=
 pwalk (an:=[.av (inA es.length)]) (ls:=[.inv [3,11,12,13] 1 (.out 0) (lcS es n k)]) (ps:=[(vi ↑es.length)=(vi ↑es.length),Tri EX (.loop (subC (bodyOf Tryz.f74) [1,0,1,0,0])) (lcS es n 0) (.out 0) (lcS es n k)]) Tryz.func74 (by kernel_rfl) (by kernel_rfl) ⟨rfl,h,trivial⟩
theorem w_wFuncN {es:List (List Dt)} {n:List UInt8} (ht:Puk 74 [.dt (.row es),syA lispB n] (.tup [inA 0,inA 0,boA false])):Puk 39 [.dt (.row es),syA lispB n] (.tup [zFn,boA false]) :=
 pwalk (an:=[.av (.tup [inA 0,inA 0,boA false])]) (ls:=[]) (ps:=[Puk 74 [(.dt (.row es)),(syA lispB n)] (.tup [(inA 0),(inA 0),(boA false)])]) Tryz.func39 (by kernel_rfl) (by kernel_rfl) ⟨ht,trivial⟩
theorem p_worldN {n:List UInt8} (h:(worldB.find? fun f=>f.nm == n)=none):Puk 39 [.dt (.row wrows),syA lispB n] (.tup [zFn,boA false]) :=
 w_wFuncN (w_locN (lq_no (ws:=worldB) (is:=namesR) (by rw [List.length_append,List.length_map,worldB_len];decide) worldB 0 rfl (Nat.zero_le _) h).tri)
end Go.Proofs.YthhknjlmjefklaaGreatDoor
namespace Go.Proofs.YthhknjlmjefklaaGreatDoor
open Go.RowKit
open Te
abbrev gxX (ws:List (List Dt)) (s u:Int):List (Option Bx):=[some (.cells [.dt (.row ws),inA s,inA u])]
abbrev gtF:FuncId:=56
abbrev gkF:FuncId:=93
theorem w_gt1 {ws:List (List Dt)} {s u:Int} {t:Te} {env:Bnd} (h:t.kind=2):Suk gtF [.ptr 0 0,teA t,bnA env] (gxX ws s u) (.tup [obA t.val,inA 0]) (gxX ws s u) :=
 psw (n:=1) (ks:=[0]) (an:=[yT]) (ls:=[]) (ps:=[Bn .eql 3 (.tmp 11) (.const (vi 2)) (vi t.kind) (vi 2) bT]) Tryz.func56 (by kernel_rfl) (by kernel_rfl) ⟨bin_ieq (yesD h),trivial⟩
theorem w_gt2 {ws:List (List Dt)} {s u u' e:Int} {t:Te} {env:Bnd} {o:Ob} (h:t.kind=3) (hc:Suk gkF [.ptr 0 0,teA t,bnA env] (gxX ws s u) (.tup [obA o,inA e]) (gxX ws s u')):Suk gtF [.ptr 0 0,teA t,bnA env] (gxX ws s u) (.tup [obA o,inA e]) (gxX ws s u') :=
 psw (n:=1) (ks:=[0]) (an:=[yF,yT]) (ls:=[.scl 5 3 [0] (.tup [obA o,inA e]) [some (.cells [.dt (.row ws),inA s,inA u'])]]) (ps:=[Bn .eql 3 (.tmp 11) (.const (vi 2)) (vi t.kind) (vi 2) bF,Bn .eql 3 (.tmp 11) (.const (vi 3)) (vi t.kind) (vi 3) bT,Suk 93 [AV.ptr 0 0,teA t,AV.dt (Dt.row (bnT env))] [some (Bx.cells [AV.dt (Dt.row ws),AV.dt (Dt.val (vi s)),AV.dt (Dt.val (vi u))])] (AV.tup [obA o,inA e]) [some (Bx.cells [AV.dt (Dt.row ws),inA s,inA u'])]]) Tryz.func56 (by kernel_rfl) (by kernel_rfl) ⟨bin_ieq (by simp [h]),bin_ieq (yesD h),hc,trivial⟩
structure GPre (ws:List (List Dt)) (t:Te) (s u:Int) (b:Bool):Prop where
 u0:0≤u
 lt:u < s
 s1:s≤100000
 pr:Puk 38 [syA t.np t.nn] (.tup [inA t.args.length,boA true])
 fn:Puk 39 [.dt (.row ws),syA t.np t.nn] (.tup [zFn,boA false])
 wa:Puk 37 [.dt (.row ws),syA t.np t.nn] (.tup [inA t.args.length,boA true])
 nm:decide (t.nn=ifB)=b
abbrev gkY (ws:List (List Dt)) (s u:Int) (t:Te) (fc:List AV):List (Option Bx):=[some (.cells [.dt (.row ws),inA s,inA u]),some (.cells ((encT t).map .dt)),zOc,some (.cells fc)]
abbrev gkS (ws:List (List Dt)) (s u:Int) (t:Te) (env:Bnd) (fc:List AV) (b:Bool) (es:List (List Dt)) (i:Int):AS:=⟨stt 204 [(0,.ptr 0 0),(2,bnA env),(4,.ptr 1 0),(6,.ptr 2 0),(9,boA b),(10,.ptr 3 0),(16,.own 4 es.length),(136,tesA t.args),(137,inA t.args.length),(138,inA i)],gkY ws s u t fc++[some (.buf 37 7 es)]⟩
noncomputable abbrev gkB:Code:=subC (bodyOf Tryz.f93) [1,1,1,1,1,1,1,1,0,1,0,0]
theorem gkB1 {ws es:List (List Dt)} {s u v:Int} {t x:Te} {env:Bnd} {b:Bool} {y:Tr} {i:Nat} (hx:t.args[i]?=some x) (hl:t.args.length≤1000) (he:es.length≤1000) (h:Suk gtF [.ptr 0 0,teA x,bnA env] (gxX ws s u) (.tup [trA y,inA 0]) (gxX ws s v)):Tri (EXn 1) gkB (gkS ws s u t env zFr b es i) .nxt (gkS ws s v t env zFr b (es++[encL y.ob]) ((i+1:Nat):Int)) :=
 have hi:=(List.getElem?_eq_some_iff.1 hx).1
 tw (E:=EXn 1) (c:=subC (bodyOf Tryz.f93) [1,1,1,1,1,1,1,1,0,1,0,0]) (s:=gkS ws s u t env zFr b es i) (an:=[yT,.av (.pin ((encT x).map .dt)),yF,.av (.un),.av (inA ((i+1:Nat):Int))]) (ls:=[.scl 24 3 [0] (.tup [trA y,inA 0]) [some (.cells [.dt (.row ws),inA s,inA v])]]) (ft:=[0,2,4,6,9,10,16,136,137,138]) (nb:=5) (e:=.nxt) (s':=gkS ws s v t env zFr b (es++[encL y.ob]) ((i+1:Nat):Int)) (ps:=[Bn .lss 3 (.tmp 138) (.tmp 137) (vi ↑i) (vi ↑t.args.length) bT,IxAt (List.map Te.enc t.args) ↑i 11 (encT x),Suk 56 [AV.ptr 0 0,teA x,AV.dt (Dt.row (bnT env))] [some (Bx.cells [AV.dt (Dt.row ws),AV.dt (Dt.val (vi s)),AV.dt (Dt.val (vi u))])] (AV.tup [trA y,inA 0]) [some (Bx.cells [AV.dt (Dt.row ws),inA s,inA v])],Bn .neq 44 (.tmp 149) (.const (vi 0)) (vi 0) (vi 0) bF,(es.length)=(es.length),FitB 112 ((es++[[Dt.val (vi y.ob.kind),Dt.val (str y.ob.num),Dt.val (str y.ob.den),Dt.val (str y.ob.sp),Dt.val (str y.ob.sn),Dt.val (str y.ob.text),Dt.row (List.map Ob.enc y.ob.pair)]]).length),SrcOK 7 [encL y.ob],Bn .add 3 (.tmp 138) (.const (vi 1)) (vi ↑i) (vi 1) (vi (↑(i+1)))]) (by kernel_rfl) ⟨bin_ilt (decide_eq_true (by omega)),ix_te hx,h,bin_ine (by simp),rfl,fit_b (by omega) (by simp;omega),src_tr y,bin_iadd (by omega) (by omega) (by omega),trivial⟩
theorem gkB3 {ws es:List (List Dt)} {s u:Int} {t:Te} {env:Bnd} {b:Bool} {i:Nat} (hi:i=t.args.length):Tri (EXn 1) gkB (gkS ws s u t env zFr b es i) (.out 2) (gkS ws s u t env zFr b es i) :=
 tw (E:=EXn 1) (c:=subC (bodyOf Tryz.f93) [1,1,1,1,1,1,1,1,0,1,0,0]) (s:=gkS ws s u t env zFr b es i) (an:=[yF]) (ls:=[]) (ft:=[0,2,4,6,9,10,16,136,137,138]) (nb:=5) (e:=.out 2) (s':=gkS ws s u t env zFr b es i) (ps:=[Bn .lss 3 (.tmp 138) (.tmp 137) (vi ↑i) (vi ↑t.args.length) bF]) (by kernel_rfl) ⟨bin_ilt (decide_eq_false (by omega)),trivial⟩
abbrev gk0 (ws:List (List Dt)) (s u:Int) (t:Te) (env:Bnd):AS:=⟨stt 204 [(0,.ptr 0 0),(2,bnA env),(4,.ptr 1 0),(6,.ptr 2 0),(9,boA true),(10,.ptr 3 0),(16,.nil),(136,tesA t.args),(137,inA t.args.length),(138,inA 0)],gkY ws s u t zFr⟩
theorem w_gkG {ws es:List (List Dt)} {s u v k:Int} {t:Te} {env:Bnd} (hp:GPre ws t s u false) (h:Tri (EXn 1) (.loop gkB) (gk0 ws s (u+1) t env) (.out 2) (gkS ws s v t env zFr true es k)) (hg:Puk 120 [syA t.np t.nn,.dt (.row es)] (boA false)):Suk gkF [.ptr 0 0,teA t,bnA env] (gxX ws s u) (.tup [obA zO,inA 10]) (gxX ws s v) :=
 have h0:=hp.u0
 have h1:=hp.lt
 have h2:=hp.s1
 .rv (psw (n:=1) (ks:=[0]) (an:=[yF,.av (inA (u+1)),.av (.tup [inA t.args.length,boA true]),.av (.tup [zFn,boA false]),.av (.tup [inA t.args.length,boA true]),.av (inA t.args.length),yF,yF,.av (inA t.args.length),yF]) (ls:=[.inv [0,2,4,6,9,10,16,136,137,138] 4 (.out 2) (gkS ws s v t env zFr true es k)]) (ps:=[Bn .geq 3 (.tmp 28) (.tmp 32) (vi u) (vi s) bF,Bn .add 3 (.tmp 38) (.const (vi 1)) (vi u) (vi 1) (vi (u+1)),Puk 38 [(syA t.np t.nn)] (.tup [(inA ↑t.args.length),(boA true)]),Puk 39 [(.dt (.row ws)),(syA t.np t.nn)] (.tup [(.agg ((stA [])::(stA [])::(.dt (.row []))::(inA 0)::(inA 0)::(stA zTe.np)::(stA zTe.nn)::(inA 0)::(stA zTe.val.num)::(stA zTe.val.den)::(stA zTe.val.sp)::(stA zTe.val.sn)::(stA zTe.val.text)::(.dt (.row (List.map Ob.enc zTe.val.pair)))::(.dt (.row (List.map Te.enc zTe.args)))::(inA 0)::(stA zTe.np)::(stA zTe.nn)::(inA 0)::(stA zTe.val.num)::(stA zTe.val.den)::(stA zTe.val.sp)::(stA zTe.val.sn)::(stA zTe.val.text)::(.dt (.row (List.map Ob.enc zTe.val.pair)))::(.dt (.row (List.map Te.enc zTe.args)))::(inA 0)::(stA zTe.np)::(stA zTe.nn)::(inA 0)::(stA zTe.val.num)::(stA zTe.val.den)::(stA zTe.val.sp)::(stA zTe.val.sn)::(stA zTe.val.text)::(.dt (.row (List.map Ob.enc zTe.val.pair)))::(.dt (.row (List.map Te.enc zTe.args)))::[])),(boA false)]),Puk 37 [(.dt (.row ws)),(syA t.np t.nn)] (.tup [(inA ↑t.args.length),(boA true)]),(vi ↑t.args.length)=(vi (↑(List.map Te.enc t.args).length)),Bn .neq 3 (.tmp 75) (.tmp 76) (vi ↑t.args.length) (vi ↑t.args.length) bF,Bn .eql 9 (.tmp 96) (.const (Value.string { data:=#[105,102]:ByteArray })) (str t.nn) (str [105,102]) bF,(vi ↑t.args.length)=(vi (↑(List.map Te.enc t.args).length)),Tri (EXn 1) (.loop (subC (bodyOf Tryz.f93) [1,1,1,1,1,1,1,1,0,1,0,0])) (gk0 ws s (u+1) t env) (.out 2) (gkS ws s v t env zFr true es k),Puk 120 [(syA t.np t.nn),(.dt (.row es))] (boA false),(es.length)=(es.length)]) Tryz.func93 (by kernel_rfl) (by kernel_rfl) ⟨bin_ige (decide_eq_false (by omega)),bin_iadd rfl (by omega) (by omega),hp.pr,hp.fn,hp.wa,lenEncT _,bin_ine (by simp),bin_seq hp.nm,lenEncT _,h,hg,rfl,trivial⟩) fun _ _ _ h=>zOn_rv h
theorem w_gkP {ws es:List (List Dt)} {s u v k e:Int} {t:Te} {env:Bnd} {o:Ob} (hp:GPre ws t s u false) (h:Tri (EXn 1) (.loop gkB) (gk0 ws s (u+1) t env) (.out 2) (gkS ws s v t env zFr true es k)) (hg:Puk 120 [syA t.np t.nn,.dt (.row es)] (boA true)) (ha:Puk 121 [syA t.np t.nn,.dt (.row es)] (.tup [obA o,inA e])):Suk gkF [.ptr 0 0,teA t,bnA env] (gxX ws s u) (.tup [obA o,inA e]) (gxX ws s v) :=
 have h0:=hp.u0
 have h1:=hp.lt
 have h2:=hp.s1
 psw (n:=1) (ks:=[0]) (an:=[yF,.av (inA (u+1)),.av (.tup [inA t.args.length,boA true]),.av (.tup [zFn,boA false]),.av (.tup [inA t.args.length,boA true]),.av (inA t.args.length),yF,yF,.av (inA t.args.length),yT,.av (.tup [obA o,inA e])]) (ls:=[.inv [0,2,4,6,9,10,16,136,137,138] 4 (.out 2) (gkS ws s v t env zFr true es k)]) (ps:=[Bn .geq 3 (.tmp 28) (.tmp 32) (vi u) (vi s) bF,Bn .add 3 (.tmp 38) (.const (vi 1)) (vi u) (vi 1) (vi (u+1)),Puk 38 [(syA t.np t.nn)] (.tup [(inA ↑t.args.length),(boA true)]),Puk 39 [(.dt (.row ws)),(syA t.np t.nn)] (.tup [(.agg ((stA [])::(stA [])::(.dt (.row []))::(inA 0)::(inA 0)::(stA zTe.np)::(stA zTe.nn)::(inA 0)::(stA zTe.val.num)::(stA zTe.val.den)::(stA zTe.val.sp)::(stA zTe.val.sn)::(stA zTe.val.text)::(.dt (.row (List.map Ob.enc zTe.val.pair)))::(.dt (.row (List.map Te.enc zTe.args)))::(inA 0)::(stA zTe.np)::(stA zTe.nn)::(inA 0)::(stA zTe.val.num)::(stA zTe.val.den)::(stA zTe.val.sp)::(stA zTe.val.sn)::(stA zTe.val.text)::(.dt (.row (List.map Ob.enc zTe.val.pair)))::(.dt (.row (List.map Te.enc zTe.args)))::(inA 0)::(stA zTe.np)::(stA zTe.nn)::(inA 0)::(stA zTe.val.num)::(stA zTe.val.den)::(stA zTe.val.sp)::(stA zTe.val.sn)::(stA zTe.val.text)::(.dt (.row (List.map Ob.enc zTe.val.pair)))::(.dt (.row (List.map Te.enc zTe.args)))::[])),(boA false)]),Puk 37 [(.dt (.row ws)),(syA t.np t.nn)] (.tup [(inA ↑t.args.length),(boA true)]),(vi ↑t.args.length)=(vi (↑(List.map Te.enc t.args).length)),Bn .neq 3 (.tmp 75) (.tmp 76) (vi ↑t.args.length) (vi ↑t.args.length) bF,Bn .eql 9 (.tmp 96) (.const (Value.string { data:=#[105,102]:ByteArray })) (str t.nn) (str [105,102]) bF,(vi ↑t.args.length)=(vi (↑(List.map Te.enc t.args).length)),Tri (EXn 1) (.loop (subC (bodyOf Tryz.f93) [1,1,1,1,1,1,1,1,0,1,0,0])) (gk0 ws s (u+1) t env) (.out 2) (gkS ws s v t env zFr true es k),Puk 120 [(syA t.np t.nn),(.dt (.row es))] (boA true),(es.length)=(es.length),Puk 121 [(syA t.np t.nn),(.dt (.row es))] (.tup [(obA o),(inA e)]),(es.length)=(es.length)]) Tryz.func93 (by kernel_rfl) (by kernel_rfl) ⟨bin_ige (decide_eq_false (by omega)),bin_iadd rfl (by omega) (by omega),hp.pr,hp.fn,hp.wa,lenEncT _,bin_ine (by simp),bin_seq hp.nm,lenEncT _,h,hg,rfl,ha,rfl,trivial⟩
end Go.Proofs.YthhknjlmjefklaaGreatDoor
namespace Go.Proofs.YthhknjlmjefklaaGreatDoor
open Go.RowKit
theorem p_rGd0 {x:Tr} (_hx:Arg x) {y:Tr} (_hy:Arg y) {z:Tr} (_hz:Arg z):Puk 17 [syA lispB [105,102],rowA [x,y,z]] (boA (Tr.gd 0 x y)):=by
 cases hNx:x.isN with
 | true =>
  cases hTx:x.isT with
  | true =>
   cases hNy:y.isN with
   | true =>
    cases hTy:y.isT with
    | true =>
     exact pwalk (an:=[.av (.tup [inA 3,boA true]),.no,.no,.no,.no,yT,.no,yT,.no,.no,.no,yT,.no,yT,.no,.no,.no,.av (boA z.isN),.no,.av (boA z.isT),.no,.no,.no,.no,.no,.no,.no,.no,.no,.no,.no,.no,.no,.no,.no,.no,.no,.no,.no]) (ls:=[]) (ps:=[Puk 10 [(syA lispB [105,102])] (.tup [(inA 3),(boA true)]),Bn .eql 3 (.tmp 38) (.const (vi 1)) (vi x.ob.kind) (vi 1) bT,Bn .eql 3 (.tmp 47) (.const (vi 3)) (vi x.ob.kind) (vi 3) bT,Bn .eql 3 (.tmp 38) (.const (vi 1)) (vi y.ob.kind) (vi 1) bT,Bn .eql 3 (.tmp 47) (.const (vi 3)) (vi y.ob.kind) (vi 3) bT,Bn .eql 3 (.tmp 38) (.const (vi 1)) (vi z.ob.kind) (vi 1) (Value.bool z.isN),Bn .eql 3 (.tmp 47) (.const (vi 3)) (vi z.ob.kind) (vi 3) (Value.bool z.isT)]) Tryz.func17 (by kernel_rfl) (by kernel_rfl) ⟨p_rAr0,bin_ieq ((isN_k x).trans hNx),bin_ieq ((isT_k x).trans hTx),bin_ieq ((isN_k y).trans hNy),bin_ieq ((isT_k y).trans hTy),bin_ieq (isN_k z),bin_ieq (isT_k z),trivial⟩
    | false =>
     exact pwalk (an:=[.av (.tup [inA 3,boA true]),.no,.no,.no,.no,yT,.no,yT,.no,.no,.no,yT,.no,yF,.no,.no,.no,.av (boA z.isN),.no,.no,.no,.no,.no,.no,.no,.no,.no,.no,.no,.no,.no,.no,.no,.no,.no,.no,.no]) (ls:=[]) (ps:=[Puk 10 [(syA lispB [105,102])] (.tup [(inA 3),(boA true)]),Bn .eql 3 (.tmp 38) (.const (vi 1)) (vi x.ob.kind) (vi 1) bT,Bn .eql 3 (.tmp 47) (.const (vi 3)) (vi x.ob.kind) (vi 3) bT,Bn .eql 3 (.tmp 38) (.const (vi 1)) (vi y.ob.kind) (vi 1) bT,Bn .eql 3 (.tmp 47) (.const (vi 3)) (vi y.ob.kind) (vi 3) bF,Bn .eql 3 (.tmp 38) (.const (vi 1)) (vi z.ob.kind) (vi 1) (Value.bool z.isN)]) Tryz.func17 (by kernel_rfl) (by kernel_rfl) ⟨p_rAr0,bin_ieq ((isN_k x).trans hNx),bin_ieq ((isT_k x).trans hTx),bin_ieq ((isN_k y).trans hNy),bin_ieq ((isT_k y).trans hTy),bin_ieq (isN_k z),trivial⟩
   | false =>
    cases hTy:y.isT with
    | true =>
     exact pwalk (an:=[.av (.tup [inA 3,boA true]),.no,.no,.no,.no,yT,.no,yT,.no,.no,.no,yF,.no,yT,.no,.no,.no,.av (boA z.isT),.no,.no,.no,.no,.no,.no,.no,.no,.no,.no,.no,.no,.no,.no,.no,.no,.no,.no,.no]) (ls:=[]) (ps:=[Puk 10 [(syA lispB [105,102])] (.tup [(inA 3),(boA true)]),Bn .eql 3 (.tmp 38) (.const (vi 1)) (vi x.ob.kind) (vi 1) bT,Bn .eql 3 (.tmp 47) (.const (vi 3)) (vi x.ob.kind) (vi 3) bT,Bn .eql 3 (.tmp 38) (.const (vi 1)) (vi y.ob.kind) (vi 1) bF,Bn .eql 3 (.tmp 47) (.const (vi 3)) (vi y.ob.kind) (vi 3) bT,Bn .eql 3 (.tmp 47) (.const (vi 3)) (vi z.ob.kind) (vi 3) (Value.bool z.isT)]) Tryz.func17 (by kernel_rfl) (by kernel_rfl) ⟨p_rAr0,bin_ieq ((isN_k x).trans hNx),bin_ieq ((isT_k x).trans hTx),bin_ieq ((isN_k y).trans hNy),bin_ieq ((isT_k y).trans hTy),bin_ieq (isT_k z),trivial⟩
    | false =>
     exact pwalk (an:=[.av (.tup [inA 3,boA true]),.no,.no,.no,.no,yT,.no,yT,.no,.no,.no,yF,.no,yF,.no,.no,.no,.no,.no,.no,.no,.no,.no,.no,.no,.no,.no,.no,.no,.no,.no,.no,.no,.no,.no]) (ls:=[]) (ps:=[Puk 10 [(syA lispB [105,102])] (.tup [(inA 3),(boA true)]),Bn .eql 3 (.tmp 38) (.const (vi 1)) (vi x.ob.kind) (vi 1) bT,Bn .eql 3 (.tmp 47) (.const (vi 3)) (vi x.ob.kind) (vi 3) bT,Bn .eql 3 (.tmp 38) (.const (vi 1)) (vi y.ob.kind) (vi 1) bF,Bn .eql 3 (.tmp 47) (.const (vi 3)) (vi y.ob.kind) (vi 3) bF]) Tryz.func17 (by kernel_rfl) (by kernel_rfl) ⟨p_rAr0,bin_ieq ((isN_k x).trans hNx),bin_ieq ((isT_k x).trans hTx),bin_ieq ((isN_k y).trans hNy),bin_ieq ((isT_k y).trans hTy),trivial⟩
  | false =>
   cases hNy:y.isN with
   | true =>
    cases hTy:y.isT with
    | true =>
     exact pwalk (an:=[.av (.tup [inA 3,boA true]),.no,.no,.no,.no,yT,.no,yF,.no,.no,.no,yT,.no,.no,.no,.av (boA z.isN),.no,.no,.no,.no,.no,.no,.no,.no,.no,.no,.no,.no,.no,.no,.no,.no,.no,.no,.no]) (ls:=[]) (ps:=[Puk 10 [(syA lispB [105,102])] (.tup [(inA 3),(boA true)]),Bn .eql 3 (.tmp 38) (.const (vi 1)) (vi x.ob.kind) (vi 1) bT,Bn .eql 3 (.tmp 47) (.const (vi 3)) (vi x.ob.kind) (vi 3) bF,Bn .eql 3 (.tmp 38) (.const (vi 1)) (vi y.ob.kind) (vi 1) bT,Bn .eql 3 (.tmp 38) (.const (vi 1)) (vi z.ob.kind) (vi 1) (Value.bool z.isN)]) Tryz.func17 (by kernel_rfl) (by kernel_rfl) ⟨p_rAr0,bin_ieq ((isN_k x).trans hNx),bin_ieq ((isT_k x).trans hTx),bin_ieq ((isN_k y).trans hNy),bin_ieq (isN_k z),trivial⟩
    | false =>
     exact pwalk (an:=[.av (.tup [inA 3,boA true]),.no,.no,.no,.no,yT,.no,yF,.no,.no,.no,yT,.no,.no,.no,.av (boA z.isN),.no,.no,.no,.no,.no,.no,.no,.no,.no,.no,.no,.no,.no,.no,.no,.no,.no,.no,.no]) (ls:=[]) (ps:=[Puk 10 [(syA lispB [105,102])] (.tup [(inA 3),(boA true)]),Bn .eql 3 (.tmp 38) (.const (vi 1)) (vi x.ob.kind) (vi 1) bT,Bn .eql 3 (.tmp 47) (.const (vi 3)) (vi x.ob.kind) (vi 3) bF,Bn .eql 3 (.tmp 38) (.const (vi 1)) (vi y.ob.kind) (vi 1) bT,Bn .eql 3 (.tmp 38) (.const (vi 1)) (vi z.ob.kind) (vi 1) (Value.bool z.isN)]) Tryz.func17 (by kernel_rfl) (by kernel_rfl) ⟨p_rAr0,bin_ieq ((isN_k x).trans hNx),bin_ieq ((isT_k x).trans hTx),bin_ieq ((isN_k y).trans hNy),bin_ieq (isN_k z),trivial⟩
   | false =>
    cases hTy:y.isT with
    | true =>
     exact pwalk (an:=[.av (.tup [inA 3,boA true]),.no,.no,.no,.no,yT,.no,yF,.no,.no,.no,yF,.no,.no,.no,.no,.no,.no,.no,.no,.no,.no,.no,.no,.no,.no,.no,.no,.no,.no,.no,.no,.no]) (ls:=[]) (ps:=[Puk 10 [(syA lispB [105,102])] (.tup [(inA 3),(boA true)]),Bn .eql 3 (.tmp 38) (.const (vi 1)) (vi x.ob.kind) (vi 1) bT,Bn .eql 3 (.tmp 47) (.const (vi 3)) (vi x.ob.kind) (vi 3) bF,Bn .eql 3 (.tmp 38) (.const (vi 1)) (vi y.ob.kind) (vi 1) bF]) Tryz.func17 (by kernel_rfl) (by kernel_rfl) ⟨p_rAr0,bin_ieq ((isN_k x).trans hNx),bin_ieq ((isT_k x).trans hTx),bin_ieq ((isN_k y).trans hNy),trivial⟩
    | false =>
     exact pwalk (an:=[.av (.tup [inA 3,boA true]),.no,.no,.no,.no,yT,.no,yF,.no,.no,.no,yF,.no,.no,.no,.no,.no,.no,.no,.no,.no,.no,.no,.no,.no,.no,.no,.no,.no,.no,.no,.no,.no]) (ls:=[]) (ps:=[Puk 10 [(syA lispB [105,102])] (.tup [(inA 3),(boA true)]),Bn .eql 3 (.tmp 38) (.const (vi 1)) (vi x.ob.kind) (vi 1) bT,Bn .eql 3 (.tmp 47) (.const (vi 3)) (vi x.ob.kind) (vi 3) bF,Bn .eql 3 (.tmp 38) (.const (vi 1)) (vi y.ob.kind) (vi 1) bF]) Tryz.func17 (by kernel_rfl) (by kernel_rfl) ⟨p_rAr0,bin_ieq ((isN_k x).trans hNx),bin_ieq ((isT_k x).trans hTx),bin_ieq ((isN_k y).trans hNy),trivial⟩
 | false =>
  cases hTx:x.isT with
  | true =>
   cases hNy:y.isN with
   | true =>
    cases hTy:y.isT with
    | true =>
     exact pwalk (an:=[.av (.tup [inA 3,boA true]),.no,.no,.no,.no,yF,.no,yT,.no,.no,.no,yT,.no,.no,.no,.av (boA z.isT),.no,.no,.no,.no,.no,.no,.no,.no,.no,.no,.no,.no,.no,.no,.no,.no,.no,.no,.no]) (ls:=[]) (ps:=[Puk 10 [(syA lispB [105,102])] (.tup [(inA 3),(boA true)]),Bn .eql 3 (.tmp 38) (.const (vi 1)) (vi x.ob.kind) (vi 1) bF,Bn .eql 3 (.tmp 47) (.const (vi 3)) (vi x.ob.kind) (vi 3) bT,Bn .eql 3 (.tmp 47) (.const (vi 3)) (vi y.ob.kind) (vi 3) bT,Bn .eql 3 (.tmp 47) (.const (vi 3)) (vi z.ob.kind) (vi 3) (Value.bool z.isT)]) Tryz.func17 (by kernel_rfl) (by kernel_rfl) ⟨p_rAr0,bin_ieq ((isN_k x).trans hNx),bin_ieq ((isT_k x).trans hTx),bin_ieq ((isT_k y).trans hTy),bin_ieq (isT_k z),trivial⟩
    | false =>
     exact pwalk (an:=[.av (.tup [inA 3,boA true]),.no,.no,.no,.no,yF,.no,yT,.no,.no,.no,yF,.no,.no,.no,.no,.no,.no,.no,.no,.no,.no,.no,.no,.no,.no,.no,.no,.no,.no,.no,.no,.no]) (ls:=[]) (ps:=[Puk 10 [(syA lispB [105,102])] (.tup [(inA 3),(boA true)]),Bn .eql 3 (.tmp 38) (.const (vi 1)) (vi x.ob.kind) (vi 1) bF,Bn .eql 3 (.tmp 47) (.const (vi 3)) (vi x.ob.kind) (vi 3) bT,Bn .eql 3 (.tmp 47) (.const (vi 3)) (vi y.ob.kind) (vi 3) bF]) Tryz.func17 (by kernel_rfl) (by kernel_rfl) ⟨p_rAr0,bin_ieq ((isN_k x).trans hNx),bin_ieq ((isT_k x).trans hTx),bin_ieq ((isT_k y).trans hTy),trivial⟩
   | false =>
    cases hTy:y.isT with
    | true =>
     exact pwalk (an:=[.av (.tup [inA 3,boA true]),.no,.no,.no,.no,yF,.no,yT,.no,.no,.no,yT,.no,.no,.no,.av (boA z.isT),.no,.no,.no,.no,.no,.no,.no,.no,.no,.no,.no,.no,.no,.no,.no,.no,.no,.no,.no]) (ls:=[]) (ps:=[Puk 10 [(syA lispB [105,102])] (.tup [(inA 3),(boA true)]),Bn .eql 3 (.tmp 38) (.const (vi 1)) (vi x.ob.kind) (vi 1) bF,Bn .eql 3 (.tmp 47) (.const (vi 3)) (vi x.ob.kind) (vi 3) bT,Bn .eql 3 (.tmp 47) (.const (vi 3)) (vi y.ob.kind) (vi 3) bT,Bn .eql 3 (.tmp 47) (.const (vi 3)) (vi z.ob.kind) (vi 3) (Value.bool z.isT)]) Tryz.func17 (by kernel_rfl) (by kernel_rfl) ⟨p_rAr0,bin_ieq ((isN_k x).trans hNx),bin_ieq ((isT_k x).trans hTx),bin_ieq ((isT_k y).trans hTy),bin_ieq (isT_k z),trivial⟩
    | false =>
     exact pwalk (an:=[.av (.tup [inA 3,boA true]),.no,.no,.no,.no,yF,.no,yT,.no,.no,.no,yF,.no,.no,.no,.no,.no,.no,.no,.no,.no,.no,.no,.no,.no,.no,.no,.no,.no,.no,.no,.no,.no]) (ls:=[]) (ps:=[Puk 10 [(syA lispB [105,102])] (.tup [(inA 3),(boA true)]),Bn .eql 3 (.tmp 38) (.const (vi 1)) (vi x.ob.kind) (vi 1) bF,Bn .eql 3 (.tmp 47) (.const (vi 3)) (vi x.ob.kind) (vi 3) bT,Bn .eql 3 (.tmp 47) (.const (vi 3)) (vi y.ob.kind) (vi 3) bF]) Tryz.func17 (by kernel_rfl) (by kernel_rfl) ⟨p_rAr0,bin_ieq ((isN_k x).trans hNx),bin_ieq ((isT_k x).trans hTx),bin_ieq ((isT_k y).trans hTy),trivial⟩
  | false =>
   cases hNy:y.isN with
   | true =>
    cases hTy:y.isT with
    | true =>
     exact pwalk (an:=[.av (.tup [inA 3,boA true]),.no,.no,.no,.no,yF,.no,yF,.no,.no,.no,.no,.no,.no,.no,.no,.no,.no,.no,.no,.no,.no,.no,.no,.no,.no,.no,.no,.no,.no,.no]) (ls:=[]) (ps:=[Puk 10 [(syA lispB [105,102])] (.tup [(inA 3),(boA true)]),Bn .eql 3 (.tmp 38) (.const (vi 1)) (vi x.ob.kind) (vi 1) bF,Bn .eql 3 (.tmp 47) (.const (vi 3)) (vi x.ob.kind) (vi 3) bF]) Tryz.func17 (by kernel_rfl) (by kernel_rfl) ⟨p_rAr0,bin_ieq ((isN_k x).trans hNx),bin_ieq ((isT_k x).trans hTx),trivial⟩
    | false =>
     exact pwalk (an:=[.av (.tup [inA 3,boA true]),.no,.no,.no,.no,yF,.no,yF,.no,.no,.no,.no,.no,.no,.no,.no,.no,.no,.no,.no,.no,.no,.no,.no,.no,.no,.no,.no,.no,.no,.no]) (ls:=[]) (ps:=[Puk 10 [(syA lispB [105,102])] (.tup [(inA 3),(boA true)]),Bn .eql 3 (.tmp 38) (.const (vi 1)) (vi x.ob.kind) (vi 1) bF,Bn .eql 3 (.tmp 47) (.const (vi 3)) (vi x.ob.kind) (vi 3) bF]) Tryz.func17 (by kernel_rfl) (by kernel_rfl) ⟨p_rAr0,bin_ieq ((isN_k x).trans hNx),bin_ieq ((isT_k x).trans hTx),trivial⟩
   | false =>
    cases hTy:y.isT with
    | true =>
     exact pwalk (an:=[.av (.tup [inA 3,boA true]),.no,.no,.no,.no,yF,.no,yF,.no,.no,.no,.no,.no,.no,.no,.no,.no,.no,.no,.no,.no,.no,.no,.no,.no,.no,.no,.no,.no,.no,.no]) (ls:=[]) (ps:=[Puk 10 [(syA lispB [105,102])] (.tup [(inA 3),(boA true)]),Bn .eql 3 (.tmp 38) (.const (vi 1)) (vi x.ob.kind) (vi 1) bF,Bn .eql 3 (.tmp 47) (.const (vi 3)) (vi x.ob.kind) (vi 3) bF]) Tryz.func17 (by kernel_rfl) (by kernel_rfl) ⟨p_rAr0,bin_ieq ((isN_k x).trans hNx),bin_ieq ((isT_k x).trans hTx),trivial⟩
    | false =>
     exact pwalk (an:=[.av (.tup [inA 3,boA true]),.no,.no,.no,.no,yF,.no,yF,.no,.no,.no,.no,.no,.no,.no,.no,.no,.no,.no,.no,.no,.no,.no,.no,.no,.no,.no,.no,.no,.no,.no]) (ls:=[]) (ps:=[Puk 10 [(syA lispB [105,102])] (.tup [(inA 3),(boA true)]),Bn .eql 3 (.tmp 38) (.const (vi 1)) (vi x.ob.kind) (vi 1) bF,Bn .eql 3 (.tmp 47) (.const (vi 3)) (vi x.ob.kind) (vi 3) bF]) Tryz.func17 (by kernel_rfl) (by kernel_rfl) ⟨p_rAr0,bin_ieq ((isN_k x).trans hNx),bin_ieq ((isT_k x).trans hTx),trivial⟩
theorem p_rGd1 {x:Tr} (_hx:Arg x) {y:Tr} (_hy:Arg y):Puk 17 [syA lispB [101,113,117,97,108],rowA [x,y]] (boA (Tr.gd 1 x y)):=by
 cases hNx:x.isN with
 | true =>
  cases hTx:x.isT with
  | true =>
   exact pwalk (an:=[.av (.tup [inA 2,boA true]),.no,.no,.no,.no,yT,.no,yT,.no,.no,.no,.av (boA y.isN),.no,.av (boA y.isT),.no,.no,.no,.no,.no,.no,.no,.no,.no,.no,.no,.no,.no,.no,.no,.no,.no,.no,.no]) (ls:=[]) (ps:=[Puk 10 [(syA lispB [101,113,117,97,108])] (.tup [(inA 2),(boA true)]),Bn .eql 3 (.tmp 38) (.const (vi 1)) (vi x.ob.kind) (vi 1) bT,Bn .eql 3 (.tmp 47) (.const (vi 3)) (vi x.ob.kind) (vi 3) bT,Bn .eql 3 (.tmp 38) (.const (vi 1)) (vi y.ob.kind) (vi 1) (Value.bool y.isN),Bn .eql 3 (.tmp 47) (.const (vi 3)) (vi y.ob.kind) (vi 3) (Value.bool y.isT)]) Tryz.func17 (by kernel_rfl) (by kernel_rfl) ⟨p_rAr1,bin_ieq ((isN_k x).trans hNx),bin_ieq ((isT_k x).trans hTx),bin_ieq (isN_k y),bin_ieq (isT_k y),trivial⟩
  | false =>
   exact pwalk (an:=[.av (.tup [inA 2,boA true]),.no,.no,.no,.no,yT,.no,yF,.no,.no,.no,.av (boA y.isN),.no,.no,.no,.no,.no,.no,.no,.no,.no,.no,.no,.no,.no,.no,.no,.no,.no,.no,.no]) (ls:=[]) (ps:=[Puk 10 [(syA lispB [101,113,117,97,108])] (.tup [(inA 2),(boA true)]),Bn .eql 3 (.tmp 38) (.const (vi 1)) (vi x.ob.kind) (vi 1) bT,Bn .eql 3 (.tmp 47) (.const (vi 3)) (vi x.ob.kind) (vi 3) bF,Bn .eql 3 (.tmp 38) (.const (vi 1)) (vi y.ob.kind) (vi 1) (Value.bool y.isN)]) Tryz.func17 (by kernel_rfl) (by kernel_rfl) ⟨p_rAr1,bin_ieq ((isN_k x).trans hNx),bin_ieq ((isT_k x).trans hTx),bin_ieq (isN_k y),trivial⟩
 | false =>
  cases hTx:x.isT with
  | true =>
   exact pwalk (an:=[.av (.tup [inA 2,boA true]),.no,.no,.no,.no,yF,.no,yT,.no,.no,.no,.av (boA y.isT),.no,.no,.no,.no,.no,.no,.no,.no,.no,.no,.no,.no,.no,.no,.no,.no,.no,.no,.no]) (ls:=[]) (ps:=[Puk 10 [(syA lispB [101,113,117,97,108])] (.tup [(inA 2),(boA true)]),Bn .eql 3 (.tmp 38) (.const (vi 1)) (vi x.ob.kind) (vi 1) bF,Bn .eql 3 (.tmp 47) (.const (vi 3)) (vi x.ob.kind) (vi 3) bT,Bn .eql 3 (.tmp 47) (.const (vi 3)) (vi y.ob.kind) (vi 3) (Value.bool y.isT)]) Tryz.func17 (by kernel_rfl) (by kernel_rfl) ⟨p_rAr1,bin_ieq ((isN_k x).trans hNx),bin_ieq ((isT_k x).trans hTx),bin_ieq (isT_k y),trivial⟩
  | false =>
   exact pwalk (an:=[.av (.tup [inA 2,boA true]),.no,.no,.no,.no,yF,.no,yF,.no,.no,.no,.no,.no,.no,.no,.no,.no,.no,.no,.no,.no,.no,.no,.no,.no,.no,.no,.no,.no]) (ls:=[]) (ps:=[Puk 10 [(syA lispB [101,113,117,97,108])] (.tup [(inA 2),(boA true)]),Bn .eql 3 (.tmp 38) (.const (vi 1)) (vi x.ob.kind) (vi 1) bF,Bn .eql 3 (.tmp 47) (.const (vi 3)) (vi x.ob.kind) (vi 3) bF]) Tryz.func17 (by kernel_rfl) (by kernel_rfl) ⟨p_rAr1,bin_ieq ((isN_k x).trans hNx),bin_ieq ((isT_k x).trans hTx),trivial⟩
theorem p_rGd2 {x:Tr} (_hx:Arg x) {y:Tr} (_hy:Arg y):Puk 17 [syA lispB [99,111,110,115],rowA [x,y]] (boA (Tr.gd 2 x y)):=by
 cases hNx:x.isN with
 | true =>
  cases hTx:x.isT with
  | true =>
   exact pwalk (an:=[.av (.tup [inA 2,boA true]),.no,.no,.no,.no,yT,.no,yT,.no,.no,.no,.av (boA y.isN),.no,.av (boA y.isT),.no,.no,.no,.no,.no,.no,.no,.no,.no,.no,.no,.no,.no,.no,.no,.no,.no,.no,.no]) (ls:=[]) (ps:=[Puk 10 [(syA lispB [99,111,110,115])] (.tup [(inA 2),(boA true)]),Bn .eql 3 (.tmp 38) (.const (vi 1)) (vi x.ob.kind) (vi 1) bT,Bn .eql 3 (.tmp 47) (.const (vi 3)) (vi x.ob.kind) (vi 3) bT,Bn .eql 3 (.tmp 38) (.const (vi 1)) (vi y.ob.kind) (vi 1) (Value.bool y.isN),Bn .eql 3 (.tmp 47) (.const (vi 3)) (vi y.ob.kind) (vi 3) (Value.bool y.isT)]) Tryz.func17 (by kernel_rfl) (by kernel_rfl) ⟨p_rAr2,bin_ieq ((isN_k x).trans hNx),bin_ieq ((isT_k x).trans hTx),bin_ieq (isN_k y),bin_ieq (isT_k y),trivial⟩
  | false =>
   exact pwalk (an:=[.av (.tup [inA 2,boA true]),.no,.no,.no,.no,yT,.no,yF,.no,.no,.no,.av (boA y.isN),.no,.no,.no,.no,.no,.no,.no,.no,.no,.no,.no,.no,.no,.no,.no,.no,.no,.no,.no]) (ls:=[]) (ps:=[Puk 10 [(syA lispB [99,111,110,115])] (.tup [(inA 2),(boA true)]),Bn .eql 3 (.tmp 38) (.const (vi 1)) (vi x.ob.kind) (vi 1) bT,Bn .eql 3 (.tmp 47) (.const (vi 3)) (vi x.ob.kind) (vi 3) bF,Bn .eql 3 (.tmp 38) (.const (vi 1)) (vi y.ob.kind) (vi 1) (Value.bool y.isN)]) Tryz.func17 (by kernel_rfl) (by kernel_rfl) ⟨p_rAr2,bin_ieq ((isN_k x).trans hNx),bin_ieq ((isT_k x).trans hTx),bin_ieq (isN_k y),trivial⟩
 | false =>
  cases hTx:x.isT with
  | true =>
   exact pwalk (an:=[.av (.tup [inA 2,boA true]),.no,.no,.no,.no,yF,.no,yT,.no,.no,.no,.av (boA y.isT),.no,.no,.no,.no,.no,.no,.no,.no,.no,.no,.no,.no,.no,.no,.no,.no,.no,.no,.no]) (ls:=[]) (ps:=[Puk 10 [(syA lispB [99,111,110,115])] (.tup [(inA 2),(boA true)]),Bn .eql 3 (.tmp 38) (.const (vi 1)) (vi x.ob.kind) (vi 1) bF,Bn .eql 3 (.tmp 47) (.const (vi 3)) (vi x.ob.kind) (vi 3) bT,Bn .eql 3 (.tmp 47) (.const (vi 3)) (vi y.ob.kind) (vi 3) (Value.bool y.isT)]) Tryz.func17 (by kernel_rfl) (by kernel_rfl) ⟨p_rAr2,bin_ieq ((isN_k x).trans hNx),bin_ieq ((isT_k x).trans hTx),bin_ieq (isT_k y),trivial⟩
  | false =>
   exact pwalk (an:=[.av (.tup [inA 2,boA true]),.no,.no,.no,.no,yF,.no,yF,.no,.no,.no,.no,.no,.no,.no,.no,.no,.no,.no,.no,.no,.no,.no,.no,.no,.no,.no,.no,.no]) (ls:=[]) (ps:=[Puk 10 [(syA lispB [99,111,110,115])] (.tup [(inA 2),(boA true)]),Bn .eql 3 (.tmp 38) (.const (vi 1)) (vi x.ob.kind) (vi 1) bF,Bn .eql 3 (.tmp 47) (.const (vi 3)) (vi x.ob.kind) (vi 3) bF]) Tryz.func17 (by kernel_rfl) (by kernel_rfl) ⟨p_rAr2,bin_ieq ((isN_k x).trans hNx),bin_ieq ((isT_k x).trans hTx),trivial⟩
theorem p_rGd3 {x:Tr} (hx:Arg x):Puk 17 [syA lispB [99,97,114],rowA [x]] (boA (Tr.gd 3 x nilT)):=by
 show Puk _ _ (boA (x.isC || decide (x=nilT)))
 cases hCx:x.isC with
 | true =>
  exact pwalk (an:=[.av (.tup [inA 1,boA true]),.no,.no,.no,.no,.av (boA x.isN),.no,.av (boA x.isT),.no,.no,.no,.no,yT]) (ls:=[]) (ps:=[Puk 10 [(syA lispB [99,97,114])] (.tup [(inA 1),(boA true)]),Bn .eql 3 (.tmp 38) (.const (vi 1)) (vi x.ob.kind) (vi 1) (Value.bool x.isN),Bn .eql 3 (.tmp 47) (.const (vi 3)) (vi x.ob.kind) (vi 3) (Value.bool x.isT),Bn .eql 3 (.tmp 58) (.const (vi 4)) (vi x.ob.kind) (vi 4) bT]) Tryz.func17 (by kernel_rfl) (by kernel_rfl) ⟨p_rAr3,bin_ieq (isN_k x),bin_ieq (isT_k x),bin_ieq ((isC_k x).trans hCx),trivial⟩
 | false =>
  exact pwalk (an:=[.av (.tup [inA 1,boA true]),.no,.no,.no,.no,.av (boA x.isN),.no,.av (boA x.isT),.no,.no,.no,.no,yF,.no,.av (boA (decide (x=nilT)))]) (ls:=[]) (ps:=[Puk 10 [(syA lispB [99,97,114])] (.tup [(inA 1),(boA true)]),Bn .eql 3 (.tmp 38) (.const (vi 1)) (vi x.ob.kind) (vi 1) (Value.bool x.isN),Bn .eql 3 (.tmp 47) (.const (vi 3)) (vi x.ob.kind) (vi 3) (Value.bool x.isT),Bn .eql 3 (.tmp 58) (.const (vi 4)) (vi x.ob.kind) (vi 4) bF,Puk 16 [(obA x.ob)] (boA (decide (x=nilT)))]) Tryz.func17 (by kernel_rfl) (by kernel_rfl) ⟨p_rAr3,bin_ieq (isN_k x),bin_ieq (isT_k x),bin_ieq ((isC_k x).trans hCx),p_rIsNil7 hx.ok (by decide),trivial⟩
theorem p_rGd4 {x:Tr} (hx:Arg x):Puk 17 [syA lispB [99,100,114],rowA [x]] (boA (Tr.gd 4 x nilT)):=by
 show Puk _ _ (boA (x.isC || decide (x=nilT)))
 cases hCx:x.isC with
 | true =>
  exact pwalk (an:=[.av (.tup [inA 1,boA true]),.no,.no,.no,.no,.av (boA x.isN),.no,.av (boA x.isT),.no,.no,.no,.no,.no,yT]) (ls:=[]) (ps:=[Puk 10 [(syA lispB [99,100,114])] (.tup [(inA 1),(boA true)]),Bn .eql 3 (.tmp 38) (.const (vi 1)) (vi x.ob.kind) (vi 1) (Value.bool x.isN),Bn .eql 3 (.tmp 47) (.const (vi 3)) (vi x.ob.kind) (vi 3) (Value.bool x.isT),Bn .eql 3 (.tmp 58) (.const (vi 4)) (vi x.ob.kind) (vi 4) bT]) Tryz.func17 (by kernel_rfl) (by kernel_rfl) ⟨p_rAr4,bin_ieq (isN_k x),bin_ieq (isT_k x),bin_ieq ((isC_k x).trans hCx),trivial⟩
 | false =>
  exact pwalk (an:=[.av (.tup [inA 1,boA true]),.no,.no,.no,.no,.av (boA x.isN),.no,.av (boA x.isT),.no,.no,.no,.no,.no,yF,.no,.av (boA (decide (x=nilT)))]) (ls:=[]) (ps:=[Puk 10 [(syA lispB [99,100,114])] (.tup [(inA 1),(boA true)]),Bn .eql 3 (.tmp 38) (.const (vi 1)) (vi x.ob.kind) (vi 1) (Value.bool x.isN),Bn .eql 3 (.tmp 47) (.const (vi 3)) (vi x.ob.kind) (vi 3) (Value.bool x.isT),Bn .eql 3 (.tmp 58) (.const (vi 4)) (vi x.ob.kind) (vi 4) bF,Puk 16 [(obA x.ob)] (boA (decide (x=nilT)))]) Tryz.func17 (by kernel_rfl) (by kernel_rfl) ⟨p_rAr4,bin_ieq (isN_k x),bin_ieq (isT_k x),bin_ieq ((isC_k x).trans hCx),p_rIsNil7 hx.ok (by decide),trivial⟩
theorem p_rGd5 {x:Tr} (_hx:Arg x):Puk 17 [syA lispB [99,111,110,115,112],rowA [x]] (boA (Tr.gd 5 x nilT)):=by
 exact pwalk (an:=[.av (.tup [inA 1,boA true]),.no,.no,.no,.no,.av (boA x.isN),.no,.av (boA x.isT),.no,.no,.no,.no,.no,.no,.no,.no,.no,.no,.no,.no,.no,.no,.no,.no,.no,.no,.no]) (ls:=[]) (ps:=[Puk 10 [(syA lispB [99,111,110,115,112])] (.tup [(inA 1),(boA true)]),Bn .eql 3 (.tmp 38) (.const (vi 1)) (vi x.ob.kind) (vi 1) (Value.bool x.isN),Bn .eql 3 (.tmp 47) (.const (vi 3)) (vi x.ob.kind) (vi 3) (Value.bool x.isT)]) Tryz.func17 (by kernel_rfl) (by kernel_rfl) ⟨p_rAr5,bin_ieq (isN_k x),bin_ieq (isT_k x),trivial⟩
theorem p_rGd6 {x:Tr} (_hx:Arg x):Puk 17 [syA lispB [115,121,109,98,111,108,112],rowA [x]] (boA (Tr.gd 6 x nilT)):=by
 exact pwalk (an:=[.av (.tup [inA 1,boA true]),.no,.no,.no,.no,.av (boA x.isN),.no,.av (boA x.isT),.no,.no,.no,.no,.no,.no,.no,.no,.no,.no,.no,.no,.no,.no,.no,.no,.no,.no,.no]) (ls:=[]) (ps:=[Puk 10 [(syA lispB [115,121,109,98,111,108,112])] (.tup [(inA 1),(boA true)]),Bn .eql 3 (.tmp 38) (.const (vi 1)) (vi x.ob.kind) (vi 1) (Value.bool x.isN),Bn .eql 3 (.tmp 47) (.const (vi 3)) (vi x.ob.kind) (vi 3) (Value.bool x.isT)]) Tryz.func17 (by kernel_rfl) (by kernel_rfl) ⟨p_rAr6,bin_ieq (isN_k x),bin_ieq (isT_k x),trivial⟩
theorem p_rGd7 {x:Tr} (_hx:Arg x):Puk 17 [syA lispB [115,116,114,105,110,103,112],rowA [x]] (boA (Tr.gd 7 x nilT)):=by
 exact pwalk (an:=[.av (.tup [inA 1,boA true]),.no,.no,.no,.no,.av (boA x.isN),.no,.av (boA x.isT),.no,.no,.no,.no,.no,.no,.no,.no,.no,.no,.no,.no,.no,.no,.no,.no,.no,.no,.no]) (ls:=[]) (ps:=[Puk 10 [(syA lispB [115,116,114,105,110,103,112])] (.tup [(inA 1),(boA true)]),Bn .eql 3 (.tmp 38) (.const (vi 1)) (vi x.ob.kind) (vi 1) (Value.bool x.isN),Bn .eql 3 (.tmp 47) (.const (vi 3)) (vi x.ob.kind) (vi 3) (Value.bool x.isT)]) Tryz.func17 (by kernel_rfl) (by kernel_rfl) ⟨p_rAr7,bin_ieq (isN_k x),bin_ieq (isT_k x),trivial⟩
theorem p_rGd8 {x:Tr} (_hx:Arg x):Puk 17 [syA lispB [114,97,116,105,111,110,97,108,112],rowA [x]] (boA (Tr.gd 8 x nilT)):=by
 exact pwalk (an:=[.av (.tup [inA 1,boA true]),.no,.no,.no,.no,.av (boA x.isN),.no,.av (boA x.isT),.no,.no,.no,.no,.no,.no,.no,.no,.no,.no,.no,.no,.no,.no,.no,.no,.no,.no,.no]) (ls:=[]) (ps:=[Puk 10 [(syA lispB [114,97,116,105,111,110,97,108,112])] (.tup [(inA 1),(boA true)]),Bn .eql 3 (.tmp 38) (.const (vi 1)) (vi x.ob.kind) (vi 1) (Value.bool x.isN),Bn .eql 3 (.tmp 47) (.const (vi 3)) (vi x.ob.kind) (vi 3) (Value.bool x.isT)]) Tryz.func17 (by kernel_rfl) (by kernel_rfl) ⟨p_rAr8,bin_ieq (isN_k x),bin_ieq (isT_k x),trivial⟩
theorem p_rGd9 {x:Tr} (_hx:Arg x):Puk 17 [syA lispB [105,110,116,101,103,101,114,112],rowA [x]] (boA (Tr.gd 9 x nilT)):=by
 exact pwalk (an:=[.av (.tup [inA 1,boA true]),.no,.no,.no,.no,.av (boA x.isN),.no,.av (boA x.isT),.no,.no,.no,.no,.no,.no,.no,.no,.no,.no,.no,.no,.no,.no,.no,.no,.no,.no,.no]) (ls:=[]) (ps:=[Puk 10 [(syA lispB [105,110,116,101,103,101,114,112])] (.tup [(inA 1),(boA true)]),Bn .eql 3 (.tmp 38) (.const (vi 1)) (vi x.ob.kind) (vi 1) (Value.bool x.isN),Bn .eql 3 (.tmp 47) (.const (vi 3)) (vi x.ob.kind) (vi 3) (Value.bool x.isT)]) Tryz.func17 (by kernel_rfl) (by kernel_rfl) ⟨p_rAr9,bin_ieq (isN_k x),bin_ieq (isT_k x),trivial⟩
theorem p_rGd10 {x:Tr} (_hx:Arg x) {y:Tr} (_hy:Arg y):Puk 17 [syA lispB [98,105,110,97,114,121,45,43],rowA [x,y]] (boA (Tr.gd 10 x y)):=by
 show Puk _ _ (boA (x.isN && y.isN))
 cases hNx:x.isN with
 | true =>
  cases hTx:x.isT with
  | true =>
   exact pwalk (an:=[.av (.tup [inA 2,boA true]),.no,.no,.no,.no,yT,.no,yT,.no,.no,.no,.av (boA y.isN),.no,.av (boA y.isT),.no,.no,.no,.no,.no]) (ls:=[]) (ps:=[Puk 10 [(syA lispB [98,105,110,97,114,121,45,43])] (.tup [(inA 2),(boA true)]),Bn .eql 3 (.tmp 38) (.const (vi 1)) (vi x.ob.kind) (vi 1) bT,Bn .eql 3 (.tmp 47) (.const (vi 3)) (vi x.ob.kind) (vi 3) bT,Bn .eql 3 (.tmp 38) (.const (vi 1)) (vi y.ob.kind) (vi 1) (Value.bool y.isN),Bn .eql 3 (.tmp 47) (.const (vi 3)) (vi y.ob.kind) (vi 3) (Value.bool y.isT)]) Tryz.func17 (by kernel_rfl) (by kernel_rfl) ⟨p_rAr10,bin_ieq ((isN_k x).trans hNx),bin_ieq ((isT_k x).trans hTx),bin_ieq (isN_k y),bin_ieq (isT_k y),trivial⟩
  | false =>
   exact pwalk (an:=[.av (.tup [inA 2,boA true]),.no,.no,.no,.no,yT,.no,yF,.no,.no,.no,.av (boA y.isN),.no,.no,.no,.no,.no]) (ls:=[]) (ps:=[Puk 10 [(syA lispB [98,105,110,97,114,121,45,43])] (.tup [(inA 2),(boA true)]),Bn .eql 3 (.tmp 38) (.const (vi 1)) (vi x.ob.kind) (vi 1) bT,Bn .eql 3 (.tmp 47) (.const (vi 3)) (vi x.ob.kind) (vi 3) bF,Bn .eql 3 (.tmp 38) (.const (vi 1)) (vi y.ob.kind) (vi 1) (Value.bool y.isN)]) Tryz.func17 (by kernel_rfl) (by kernel_rfl) ⟨p_rAr10,bin_ieq ((isN_k x).trans hNx),bin_ieq ((isT_k x).trans hTx),bin_ieq (isN_k y),trivial⟩
 | false =>
  cases hTx:x.isT with
  | true =>
   exact pwalk (an:=[.av (.tup [inA 2,boA true]),.no,.no,.no,.no,yF,.no,yT,.no,.no,.no,.av (boA y.isT),.no,.no,.no,.no,.no]) (ls:=[]) (ps:=[Puk 10 [(syA lispB [98,105,110,97,114,121,45,43])] (.tup [(inA 2),(boA true)]),Bn .eql 3 (.tmp 38) (.const (vi 1)) (vi x.ob.kind) (vi 1) bF,Bn .eql 3 (.tmp 47) (.const (vi 3)) (vi x.ob.kind) (vi 3) bT,Bn .eql 3 (.tmp 47) (.const (vi 3)) (vi y.ob.kind) (vi 3) (Value.bool y.isT)]) Tryz.func17 (by kernel_rfl) (by kernel_rfl) ⟨p_rAr10,bin_ieq ((isN_k x).trans hNx),bin_ieq ((isT_k x).trans hTx),bin_ieq (isT_k y),trivial⟩
  | false =>
   exact pwalk (an:=[.av (.tup [inA 2,boA true]),.no,.no,.no,.no,yF,.no,yF,.no,.no,.no,.no,.no,.no,.no]) (ls:=[]) (ps:=[Puk 10 [(syA lispB [98,105,110,97,114,121,45,43])] (.tup [(inA 2),(boA true)]),Bn .eql 3 (.tmp 38) (.const (vi 1)) (vi x.ob.kind) (vi 1) bF,Bn .eql 3 (.tmp 47) (.const (vi 3)) (vi x.ob.kind) (vi 3) bF]) Tryz.func17 (by kernel_rfl) (by kernel_rfl) ⟨p_rAr10,bin_ieq ((isN_k x).trans hNx),bin_ieq ((isT_k x).trans hTx),trivial⟩
theorem p_rGd11 {x:Tr} (_hx:Arg x) {y:Tr} (_hy:Arg y):Puk 17 [syA lispB [98,105,110,97,114,121,45,42],rowA [x,y]] (boA (Tr.gd 11 x y)):=by
 show Puk _ _ (boA (x.isN && y.isN))
 cases hNx:x.isN with
 | true =>
  cases hTx:x.isT with
  | true =>
   exact pwalk (an:=[.av (.tup [inA 2,boA true]),.no,.no,.no,.no,yT,.no,yT,.no,.no,.no,.av (boA y.isN),.no,.av (boA y.isT),.no,.no,.no,.no,.no,.no]) (ls:=[]) (ps:=[Puk 10 [(syA lispB [98,105,110,97,114,121,45,42])] (.tup [(inA 2),(boA true)]),Bn .eql 3 (.tmp 38) (.const (vi 1)) (vi x.ob.kind) (vi 1) bT,Bn .eql 3 (.tmp 47) (.const (vi 3)) (vi x.ob.kind) (vi 3) bT,Bn .eql 3 (.tmp 38) (.const (vi 1)) (vi y.ob.kind) (vi 1) (Value.bool y.isN),Bn .eql 3 (.tmp 47) (.const (vi 3)) (vi y.ob.kind) (vi 3) (Value.bool y.isT)]) Tryz.func17 (by kernel_rfl) (by kernel_rfl) ⟨p_rAr11,bin_ieq ((isN_k x).trans hNx),bin_ieq ((isT_k x).trans hTx),bin_ieq (isN_k y),bin_ieq (isT_k y),trivial⟩
  | false =>
   exact pwalk (an:=[.av (.tup [inA 2,boA true]),.no,.no,.no,.no,yT,.no,yF,.no,.no,.no,.av (boA y.isN),.no,.no,.no,.no,.no,.no]) (ls:=[]) (ps:=[Puk 10 [(syA lispB [98,105,110,97,114,121,45,42])] (.tup [(inA 2),(boA true)]),Bn .eql 3 (.tmp 38) (.const (vi 1)) (vi x.ob.kind) (vi 1) bT,Bn .eql 3 (.tmp 47) (.const (vi 3)) (vi x.ob.kind) (vi 3) bF,Bn .eql 3 (.tmp 38) (.const (vi 1)) (vi y.ob.kind) (vi 1) (Value.bool y.isN)]) Tryz.func17 (by kernel_rfl) (by kernel_rfl) ⟨p_rAr11,bin_ieq ((isN_k x).trans hNx),bin_ieq ((isT_k x).trans hTx),bin_ieq (isN_k y),trivial⟩
 | false =>
  cases hTx:x.isT with
  | true =>
   exact pwalk (an:=[.av (.tup [inA 2,boA true]),.no,.no,.no,.no,yF,.no,yT,.no,.no,.no,.av (boA y.isT),.no,.no,.no,.no,.no,.no]) (ls:=[]) (ps:=[Puk 10 [(syA lispB [98,105,110,97,114,121,45,42])] (.tup [(inA 2),(boA true)]),Bn .eql 3 (.tmp 38) (.const (vi 1)) (vi x.ob.kind) (vi 1) bF,Bn .eql 3 (.tmp 47) (.const (vi 3)) (vi x.ob.kind) (vi 3) bT,Bn .eql 3 (.tmp 47) (.const (vi 3)) (vi y.ob.kind) (vi 3) (Value.bool y.isT)]) Tryz.func17 (by kernel_rfl) (by kernel_rfl) ⟨p_rAr11,bin_ieq ((isN_k x).trans hNx),bin_ieq ((isT_k x).trans hTx),bin_ieq (isT_k y),trivial⟩
  | false =>
   exact pwalk (an:=[.av (.tup [inA 2,boA true]),.no,.no,.no,.no,yF,.no,yF,.no,.no,.no,.no,.no,.no,.no,.no]) (ls:=[]) (ps:=[Puk 10 [(syA lispB [98,105,110,97,114,121,45,42])] (.tup [(inA 2),(boA true)]),Bn .eql 3 (.tmp 38) (.const (vi 1)) (vi x.ob.kind) (vi 1) bF,Bn .eql 3 (.tmp 47) (.const (vi 3)) (vi x.ob.kind) (vi 3) bF]) Tryz.func17 (by kernel_rfl) (by kernel_rfl) ⟨p_rAr11,bin_ieq ((isN_k x).trans hNx),bin_ieq ((isT_k x).trans hTx),trivial⟩
theorem p_rGd12 {x:Tr} (_hx:Arg x):Puk 17 [syA lispB [117,110,97,114,121,45,45],rowA [x]] (boA (Tr.gd 12 x nilT)):=by
 exact pwalk (an:=[.av (.tup [inA 1,boA true]),.no,.no,.no,.no,.av (boA x.isN),.no,.av (boA x.isT),.no,.no,.no,.no,.no,.no,.no]) (ls:=[]) (ps:=[Puk 10 [(syA lispB [117,110,97,114,121,45,45])] (.tup [(inA 1),(boA true)]),Bn .eql 3 (.tmp 38) (.const (vi 1)) (vi x.ob.kind) (vi 1) (Value.bool x.isN),Bn .eql 3 (.tmp 47) (.const (vi 3)) (vi x.ob.kind) (vi 3) (Value.bool x.isT)]) Tryz.func17 (by kernel_rfl) (by kernel_rfl) ⟨p_rAr12,bin_ieq (isN_k x),bin_ieq (isT_k x),trivial⟩
theorem p_rGd13 {x:Tr} (_hx:Arg x):Puk 17 [syA lispB [117,110,97,114,121,45,47],rowA [x]] (boA (Tr.gd 13 x nilT)):=by
 show Puk _ _ (boA (x.isN && !decide (x.ob.num=[48])))
 cases hNx:x.isN with
 | true =>
  exact pwalk (an:=[.av (.tup [inA 1,boA true]),.no,.no,.no,.no,yT,.no,.av (boA x.isT),.no,.no,.no,.no,.no,.no,.no,.no,.no,.no,.no,.no,.no,.av (boA (!decide (x.ob.num=[48])))]) (ls:=[]) (ps:=[Puk 10 [(syA lispB [117,110,97,114,121,45,47])] (.tup [(inA 1),(boA true)]),Bn .eql 3 (.tmp 38) (.const (vi 1)) (vi x.ob.kind) (vi 1) bT,Bn .eql 3 (.tmp 47) (.const (vi 3)) (vi x.ob.kind) (vi 3) (Value.bool x.isT),Bn .neq 9 (.tmp 82) (.const (Value.string { data:=#[48]:ByteArray })) (str x.ob.num) (str [48]) (Value.bool (!decide (x.ob.num=[48])))]) Tryz.func17 (by kernel_rfl) (by kernel_rfl) ⟨p_rAr13,bin_ieq ((isN_k x).trans hNx),bin_ieq (isT_k x),bin_sne (by rw [Bool.not_not]),trivial⟩
 | false =>
  exact pwalk (an:=[.av (.tup [inA 1,boA true]),.no,.no,.no,.no,yF,.no,.av (boA x.isT),.no,.no,.no,.no,.no,.no,.no,.no,.no,.no,.no,.no]) (ls:=[]) (ps:=[Puk 10 [(syA lispB [117,110,97,114,121,45,47])] (.tup [(inA 1),(boA true)]),Bn .eql 3 (.tmp 38) (.const (vi 1)) (vi x.ob.kind) (vi 1) bF,Bn .eql 3 (.tmp 47) (.const (vi 3)) (vi x.ob.kind) (vi 3) (Value.bool x.isT)]) Tryz.func17 (by kernel_rfl) (by kernel_rfl) ⟨p_rAr13,bin_ieq ((isN_k x).trans hNx),bin_ieq (isT_k x),trivial⟩
theorem p_rGd14 {x:Tr} (_hx:Arg x) {y:Tr} (_hy:Arg y):Puk 17 [syA lispB [60],rowA [x,y]] (boA (Tr.gd 14 x y)):=by
 show Puk _ _ (boA (x.isN && y.isN))
 cases hNx:x.isN with
 | true =>
  cases hTx:x.isT with
  | true =>
   exact pwalk (an:=[.av (.tup [inA 2,boA true]),.no,.no,.no,.no,yT,.no,yT,.no,.no,.no,.av (boA y.isN),.no,.av (boA y.isT),.no,.no,.no,.no,.no,.no,.no,.no]) (ls:=[]) (ps:=[Puk 10 [(syA lispB [60])] (.tup [(inA 2),(boA true)]),Bn .eql 3 (.tmp 38) (.const (vi 1)) (vi x.ob.kind) (vi 1) bT,Bn .eql 3 (.tmp 47) (.const (vi 3)) (vi x.ob.kind) (vi 3) bT,Bn .eql 3 (.tmp 38) (.const (vi 1)) (vi y.ob.kind) (vi 1) (Value.bool y.isN),Bn .eql 3 (.tmp 47) (.const (vi 3)) (vi y.ob.kind) (vi 3) (Value.bool y.isT)]) Tryz.func17 (by kernel_rfl) (by kernel_rfl) ⟨p_rAr14,bin_ieq ((isN_k x).trans hNx),bin_ieq ((isT_k x).trans hTx),bin_ieq (isN_k y),bin_ieq (isT_k y),trivial⟩
  | false =>
   exact pwalk (an:=[.av (.tup [inA 2,boA true]),.no,.no,.no,.no,yT,.no,yF,.no,.no,.no,.av (boA y.isN),.no,.no,.no,.no,.no,.no,.no,.no]) (ls:=[]) (ps:=[Puk 10 [(syA lispB [60])] (.tup [(inA 2),(boA true)]),Bn .eql 3 (.tmp 38) (.const (vi 1)) (vi x.ob.kind) (vi 1) bT,Bn .eql 3 (.tmp 47) (.const (vi 3)) (vi x.ob.kind) (vi 3) bF,Bn .eql 3 (.tmp 38) (.const (vi 1)) (vi y.ob.kind) (vi 1) (Value.bool y.isN)]) Tryz.func17 (by kernel_rfl) (by kernel_rfl) ⟨p_rAr14,bin_ieq ((isN_k x).trans hNx),bin_ieq ((isT_k x).trans hTx),bin_ieq (isN_k y),trivial⟩
 | false =>
  cases hTx:x.isT with
  | true =>
   exact pwalk (an:=[.av (.tup [inA 2,boA true]),.no,.no,.no,.no,yF,.no,yT,.no,.no,.no,.av (boA y.isT),.no,.no,.no,.no,.no,.no,.no,.no]) (ls:=[]) (ps:=[Puk 10 [(syA lispB [60])] (.tup [(inA 2),(boA true)]),Bn .eql 3 (.tmp 38) (.const (vi 1)) (vi x.ob.kind) (vi 1) bF,Bn .eql 3 (.tmp 47) (.const (vi 3)) (vi x.ob.kind) (vi 3) bT,Bn .eql 3 (.tmp 47) (.const (vi 3)) (vi y.ob.kind) (vi 3) (Value.bool y.isT)]) Tryz.func17 (by kernel_rfl) (by kernel_rfl) ⟨p_rAr14,bin_ieq ((isN_k x).trans hNx),bin_ieq ((isT_k x).trans hTx),bin_ieq (isT_k y),trivial⟩
  | false =>
   exact pwalk (an:=[.av (.tup [inA 2,boA true]),.no,.no,.no,.no,yF,.no,yF,.no,.no,.no,.no,.no,.no,.no,.no,.no,.no]) (ls:=[]) (ps:=[Puk 10 [(syA lispB [60])] (.tup [(inA 2),(boA true)]),Bn .eql 3 (.tmp 38) (.const (vi 1)) (vi x.ob.kind) (vi 1) bF,Bn .eql 3 (.tmp 47) (.const (vi 3)) (vi x.ob.kind) (vi 3) bF]) Tryz.func17 (by kernel_rfl) (by kernel_rfl) ⟨p_rAr14,bin_ieq ((isN_k x).trans hNx),bin_ieq ((isT_k x).trans hTx),trivial⟩
theorem p_rGd15 {x:Tr} (_hx:Arg x):Puk 17 [syA lispB [110,117,109,101,114,97,116,111,114],rowA [x]] (boA (Tr.gd 15 x nilT)):=by
 exact pwalk (an:=[.av (.tup [inA 1,boA true]),.no,.no,.no,.no,.av (boA x.isN),.no,.av (boA x.isT),.no,.no,.no,.no,.no,.no,.no,.no,.no]) (ls:=[]) (ps:=[Puk 10 [(syA lispB [110,117,109,101,114,97,116,111,114])] (.tup [(inA 1),(boA true)]),Bn .eql 3 (.tmp 38) (.const (vi 1)) (vi x.ob.kind) (vi 1) (Value.bool x.isN),Bn .eql 3 (.tmp 47) (.const (vi 3)) (vi x.ob.kind) (vi 3) (Value.bool x.isT)]) Tryz.func17 (by kernel_rfl) (by kernel_rfl) ⟨p_rAr15,bin_ieq (isN_k x),bin_ieq (isT_k x),trivial⟩
theorem p_rGd16 {x:Tr} (_hx:Arg x):Puk 17 [syA lispB [100,101,110,111,109,105,110,97,116,111,114],rowA [x]] (boA (Tr.gd 16 x nilT)):=by
 exact pwalk (an:=[.av (.tup [inA 1,boA true]),.no,.no,.no,.no,.av (boA x.isN),.no,.av (boA x.isT),.no,.no,.no,.no,.no,.no,.no,.no,.no,.no]) (ls:=[]) (ps:=[Puk 10 [(syA lispB [100,101,110,111,109,105,110,97,116,111,114])] (.tup [(inA 1),(boA true)]),Bn .eql 3 (.tmp 38) (.const (vi 1)) (vi x.ob.kind) (vi 1) (Value.bool x.isN),Bn .eql 3 (.tmp 47) (.const (vi 3)) (vi x.ob.kind) (vi 3) (Value.bool x.isT)]) Tryz.func17 (by kernel_rfl) (by kernel_rfl) ⟨p_rAr16,bin_ieq (isN_k x),bin_ieq (isT_k x),trivial⟩
theorem p_rGd17 {x:Tr} (_hx:Arg x):Puk 17 [syA lispB [102,108,111,111,114],rowA [x]] (boA (Tr.gd 17 x nilT)):=by
 exact pwalk (an:=[.av (.tup [inA 1,boA true]),.no,.no,.no,.no,.av (boA x.isN),.no,.av (boA x.isT),.no,.no,.no,.no,.no,.no,.no,.no,.no,.no,.no]) (ls:=[]) (ps:=[Puk 10 [(syA lispB [102,108,111,111,114])] (.tup [(inA 1),(boA true)]),Bn .eql 3 (.tmp 38) (.const (vi 1)) (vi x.ob.kind) (vi 1) (Value.bool x.isN),Bn .eql 3 (.tmp 47) (.const (vi 3)) (vi x.ob.kind) (vi 3) (Value.bool x.isT)]) Tryz.func17 (by kernel_rfl) (by kernel_rfl) ⟨p_rAr17,bin_ieq (isN_k x),bin_ieq (isT_k x),trivial⟩
theorem p_rGd18 {x:Tr} (_hx:Arg x):Puk 17 [syA lispB [115,121,109,98,111,108,45,110,97,109,101],rowA [x]] (boA (Tr.gd 18 x nilT)):=by
 exact pwalk (an:=[.av (.tup [inA 1,boA true]),.no,.no,.no,.no,.av (boA x.isN),.no,.av (boA x.isT),.no,.no,.no,.no,.no,.no,.no,.no,.no,.no,.no,.no,.no,.no,.av (boA x.isY)]) (ls:=[]) (ps:=[Puk 10 [(syA lispB [115,121,109,98,111,108,45,110,97,109,101])] (.tup [(inA 1),(boA true)]),Bn .eql 3 (.tmp 38) (.const (vi 1)) (vi x.ob.kind) (vi 1) (Value.bool x.isN),Bn .eql 3 (.tmp 47) (.const (vi 3)) (vi x.ob.kind) (vi 3) (Value.bool x.isT),Bn .eql 3 (.tmp 91) (.const (vi 2)) (vi x.ob.kind) (vi 2) (Value.bool x.isY)]) Tryz.func17 (by kernel_rfl) (by kernel_rfl) ⟨p_rAr18,bin_ieq (isN_k x),bin_ieq (isT_k x),bin_ieq (isY_k x),trivial⟩
theorem p_rGd19 {x:Tr} (_hx:Arg x):Puk 17 [syA lispB [115,121,109,98,111,108,45,112,97,99,107,97,103,101,45,110,97,109,101],rowA [x]] (boA (Tr.gd 19 x nilT)):=by
 exact pwalk (an:=[.av (.tup [inA 1,boA true]),.no,.no,.no,.no,.av (boA x.isN),.no,.av (boA x.isT),.no,.no,.no,.no,.no,.no,.no,.no,.no,.no,.no,.no,.no,.no,.no,.av (boA x.isY)]) (ls:=[]) (ps:=[Puk 10 [(syA lispB [115,121,109,98,111,108,45,112,97,99,107,97,103,101,45,110,97,109,101])] (.tup [(inA 1),(boA true)]),Bn .eql 3 (.tmp 38) (.const (vi 1)) (vi x.ob.kind) (vi 1) (Value.bool x.isN),Bn .eql 3 (.tmp 47) (.const (vi 3)) (vi x.ob.kind) (vi 3) (Value.bool x.isT),Bn .eql 3 (.tmp 91) (.const (vi 2)) (vi x.ob.kind) (vi 2) (Value.bool x.isY)]) Tryz.func17 (by kernel_rfl) (by kernel_rfl) ⟨p_rAr19,bin_ieq (isN_k x),bin_ieq (isT_k x),bin_ieq (isY_k x),trivial⟩
theorem p_rGd20 {x:Tr} (_hx:Arg x) {y:Tr} (_hy:Arg y):Puk 17 [syA lispB [105,110,116,101,114,110],rowA [x,y]] (boA (Tr.gd 20 x y)):=by
 show Puk _ _ (boA (x.isT && y.isT))
 cases hNx:x.isN with
 | true =>
  cases hTx:x.isT with
  | true =>
   exact pwalk (an:=[.av (.tup [inA 2,boA true]),.no,.no,.no,.no,yT,.no,yT,.no,.no,.no,.av (boA y.isN),.no,.av (boA y.isT),.no,.no,.no,.no,.no,.no,.no,.no,.no,.no,.no,.no,.no,.no,.no]) (ls:=[]) (ps:=[Puk 10 [(syA lispB [105,110,116,101,114,110])] (.tup [(inA 2),(boA true)]),Bn .eql 3 (.tmp 38) (.const (vi 1)) (vi x.ob.kind) (vi 1) bT,Bn .eql 3 (.tmp 47) (.const (vi 3)) (vi x.ob.kind) (vi 3) bT,Bn .eql 3 (.tmp 38) (.const (vi 1)) (vi y.ob.kind) (vi 1) (Value.bool y.isN),Bn .eql 3 (.tmp 47) (.const (vi 3)) (vi y.ob.kind) (vi 3) (Value.bool y.isT)]) Tryz.func17 (by kernel_rfl) (by kernel_rfl) ⟨p_rAr20,bin_ieq ((isN_k x).trans hNx),bin_ieq ((isT_k x).trans hTx),bin_ieq (isN_k y),bin_ieq (isT_k y),trivial⟩
  | false =>
   exact pwalk (an:=[.av (.tup [inA 2,boA true]),.no,.no,.no,.no,yT,.no,yF,.no,.no,.no,.av (boA y.isN),.no,.no,.no,.no,.no,.no,.no,.no,.no,.no,.no,.no,.no,.no,.no]) (ls:=[]) (ps:=[Puk 10 [(syA lispB [105,110,116,101,114,110])] (.tup [(inA 2),(boA true)]),Bn .eql 3 (.tmp 38) (.const (vi 1)) (vi x.ob.kind) (vi 1) bT,Bn .eql 3 (.tmp 47) (.const (vi 3)) (vi x.ob.kind) (vi 3) bF,Bn .eql 3 (.tmp 38) (.const (vi 1)) (vi y.ob.kind) (vi 1) (Value.bool y.isN)]) Tryz.func17 (by kernel_rfl) (by kernel_rfl) ⟨p_rAr20,bin_ieq ((isN_k x).trans hNx),bin_ieq ((isT_k x).trans hTx),bin_ieq (isN_k y),trivial⟩
 | false =>
  cases hTx:x.isT with
  | true =>
   exact pwalk (an:=[.av (.tup [inA 2,boA true]),.no,.no,.no,.no,yF,.no,yT,.no,.no,.no,.av (boA y.isT),.no,.no,.no,.no,.no,.no,.no,.no,.no,.no,.no,.no,.no,.no,.no]) (ls:=[]) (ps:=[Puk 10 [(syA lispB [105,110,116,101,114,110])] (.tup [(inA 2),(boA true)]),Bn .eql 3 (.tmp 38) (.const (vi 1)) (vi x.ob.kind) (vi 1) bF,Bn .eql 3 (.tmp 47) (.const (vi 3)) (vi x.ob.kind) (vi 3) bT,Bn .eql 3 (.tmp 47) (.const (vi 3)) (vi y.ob.kind) (vi 3) (Value.bool y.isT)]) Tryz.func17 (by kernel_rfl) (by kernel_rfl) ⟨p_rAr20,bin_ieq ((isN_k x).trans hNx),bin_ieq ((isT_k x).trans hTx),bin_ieq (isT_k y),trivial⟩
  | false =>
   exact pwalk (an:=[.av (.tup [inA 2,boA true]),.no,.no,.no,.no,yF,.no,yF,.no,.no,.no,.no,.no,.no,.no,.no,.no,.no,.no,.no,.no,.no,.no,.no,.no]) (ls:=[]) (ps:=[Puk 10 [(syA lispB [105,110,116,101,114,110])] (.tup [(inA 2),(boA true)]),Bn .eql 3 (.tmp 38) (.const (vi 1)) (vi x.ob.kind) (vi 1) bF,Bn .eql 3 (.tmp 47) (.const (vi 3)) (vi x.ob.kind) (vi 3) bF]) Tryz.func17 (by kernel_rfl) (by kernel_rfl) ⟨p_rAr20,bin_ieq ((isN_k x).trans hNx),bin_ieq ((isT_k x).trans hTx),trivial⟩
theorem p_rGd21 {x:Tr} (_hx:Arg x) {y:Tr} (_hy:Arg y):Puk 17 [syA lispB [115,116,114,105,110,103,45,97,112,112,101,110,100],rowA [x,y]] (boA (Tr.gd 21 x y)):=by
 show Puk _ _ (boA (x.isT && y.isT))
 cases hNx:x.isN with
 | true =>
  cases hTx:x.isT with
  | true =>
   exact pwalk (an:=[.av (.tup [inA 2,boA true]),.no,.no,.no,.no,yT,.no,yT,.no,.no,.no,.av (boA y.isN),.no,.av (boA y.isT),.no,.no,.no,.no,.no,.no,.no,.no,.no,.no,.no,.no,.no,.no,.no,.no]) (ls:=[]) (ps:=[Puk 10 [(syA lispB [115,116,114,105,110,103,45,97,112,112,101,110,100])] (.tup [(inA 2),(boA true)]),Bn .eql 3 (.tmp 38) (.const (vi 1)) (vi x.ob.kind) (vi 1) bT,Bn .eql 3 (.tmp 47) (.const (vi 3)) (vi x.ob.kind) (vi 3) bT,Bn .eql 3 (.tmp 38) (.const (vi 1)) (vi y.ob.kind) (vi 1) (Value.bool y.isN),Bn .eql 3 (.tmp 47) (.const (vi 3)) (vi y.ob.kind) (vi 3) (Value.bool y.isT)]) Tryz.func17 (by kernel_rfl) (by kernel_rfl) ⟨p_rAr21,bin_ieq ((isN_k x).trans hNx),bin_ieq ((isT_k x).trans hTx),bin_ieq (isN_k y),bin_ieq (isT_k y),trivial⟩
  | false =>
   exact pwalk (an:=[.av (.tup [inA 2,boA true]),.no,.no,.no,.no,yT,.no,yF,.no,.no,.no,.av (boA y.isN),.no,.no,.no,.no,.no,.no,.no,.no,.no,.no,.no,.no,.no,.no,.no,.no]) (ls:=[]) (ps:=[Puk 10 [(syA lispB [115,116,114,105,110,103,45,97,112,112,101,110,100])] (.tup [(inA 2),(boA true)]),Bn .eql 3 (.tmp 38) (.const (vi 1)) (vi x.ob.kind) (vi 1) bT,Bn .eql 3 (.tmp 47) (.const (vi 3)) (vi x.ob.kind) (vi 3) bF,Bn .eql 3 (.tmp 38) (.const (vi 1)) (vi y.ob.kind) (vi 1) (Value.bool y.isN)]) Tryz.func17 (by kernel_rfl) (by kernel_rfl) ⟨p_rAr21,bin_ieq ((isN_k x).trans hNx),bin_ieq ((isT_k x).trans hTx),bin_ieq (isN_k y),trivial⟩
 | false =>
  cases hTx:x.isT with
  | true =>
   exact pwalk (an:=[.av (.tup [inA 2,boA true]),.no,.no,.no,.no,yF,.no,yT,.no,.no,.no,.av (boA y.isT),.no,.no,.no,.no,.no,.no,.no,.no,.no,.no,.no,.no,.no,.no,.no,.no]) (ls:=[]) (ps:=[Puk 10 [(syA lispB [115,116,114,105,110,103,45,97,112,112,101,110,100])] (.tup [(inA 2),(boA true)]),Bn .eql 3 (.tmp 38) (.const (vi 1)) (vi x.ob.kind) (vi 1) bF,Bn .eql 3 (.tmp 47) (.const (vi 3)) (vi x.ob.kind) (vi 3) bT,Bn .eql 3 (.tmp 47) (.const (vi 3)) (vi y.ob.kind) (vi 3) (Value.bool y.isT)]) Tryz.func17 (by kernel_rfl) (by kernel_rfl) ⟨p_rAr21,bin_ieq ((isN_k x).trans hNx),bin_ieq ((isT_k x).trans hTx),bin_ieq (isT_k y),trivial⟩
  | false =>
   exact pwalk (an:=[.av (.tup [inA 2,boA true]),.no,.no,.no,.no,yF,.no,yF,.no,.no,.no,.no,.no,.no,.no,.no,.no,.no,.no,.no,.no,.no,.no,.no,.no,.no]) (ls:=[]) (ps:=[Puk 10 [(syA lispB [115,116,114,105,110,103,45,97,112,112,101,110,100])] (.tup [(inA 2),(boA true)]),Bn .eql 3 (.tmp 38) (.const (vi 1)) (vi x.ob.kind) (vi 1) bF,Bn .eql 3 (.tmp 47) (.const (vi 3)) (vi x.ob.kind) (vi 3) bF]) Tryz.func17 (by kernel_rfl) (by kernel_rfl) ⟨p_rAr21,bin_ieq ((isN_k x).trans hNx),bin_ieq ((isT_k x).trans hTx),trivial⟩
theorem p_rGd22 {x:Tr} (_hx:Arg x):Puk 17 [syA lispB [115,116,114,105,110,103,45,108,101,110,103,116,104],rowA [x]] (boA (Tr.gd 22 x nilT)):=by
 exact pwalk (an:=[.av (.tup [inA 1,boA true]),.no,.no,.no,.no,.av (boA x.isN),.no,.av (boA x.isT),.no,.no,.no,.no,.no,.no,.no,.no,.no,.no,.no,.no,.no,.no,.no,.no,.no]) (ls:=[]) (ps:=[Puk 10 [(syA lispB [115,116,114,105,110,103,45,108,101,110,103,116,104])] (.tup [(inA 1),(boA true)]),Bn .eql 3 (.tmp 38) (.const (vi 1)) (vi x.ob.kind) (vi 1) (Value.bool x.isN),Bn .eql 3 (.tmp 47) (.const (vi 3)) (vi x.ob.kind) (vi 3) (Value.bool x.isT)]) Tryz.func17 (by kernel_rfl) (by kernel_rfl) ⟨p_rAr22,bin_ieq (isN_k x),bin_ieq (isT_k x),trivial⟩
theorem p_rGd23 {x:Tr} (_hx:Arg x) {y:Tr} (hy:Arg y):Puk 17 [syA lispB [115,116,114,105,110,103,45,98,121,116,101],rowA [x,y]] (boA (Tr.gd 23 x y)):=by
 cases hNx:x.isN with
 | true =>
  cases hTx:x.isT with
  | true =>
   exact pwalk (an:=[.av (.tup [inA 2,boA true]),.no,.no,.no,.no,yT,.no,yT,.no,.no,.no,.av (boA y.isN),.no,.av (boA y.isT),.no,.no,.no,.no,.no,.no,.no,.no,.no,.no,.no,.no,.no,.no,.no,.no,.no,.no,.no,.no,.av (.tup [inA (ixR7 x y),boA (x.ixV y).isSome])]) (ls:=[]) (ps:=[Puk 10 [(syA lispB [115,116,114,105,110,103,45,98,121,116,101])] (.tup [(inA 2),(boA true)]),Bn .eql 3 (.tmp 38) (.const (vi 1)) (vi x.ob.kind) (vi 1) bT,Bn .eql 3 (.tmp 47) (.const (vi 3)) (vi x.ob.kind) (vi 3) bT,Bn .eql 3 (.tmp 38) (.const (vi 1)) (vi y.ob.kind) (vi 1) (Value.bool y.isN),Bn .eql 3 (.tmp 47) (.const (vi 3)) (vi y.ob.kind) (vi 3) (Value.bool y.isT),Puk 51 [(obA x.ob),(obA y.ob)] (.tup [(inA (ixR7 x y)),(boA ((x.ixV y).isSome))])]) Tryz.func17 (by kernel_rfl) (by kernel_rfl) ⟨p_rAr23,bin_ieq ((isN_k x).trans hNx),bin_ieq ((isT_k x).trans hTx),bin_ieq (isN_k y),bin_ieq (isT_k y),p_rIx x hy.ok (by decide),trivial⟩
  | false =>
   exact pwalk (an:=[.av (.tup [inA 2,boA true]),.no,.no,.no,.no,yT,.no,yF,.no,.no,.no,.av (boA y.isN),.no,.no,.no,.no,.no,.no,.no,.no,.no,.no,.no,.no,.no,.no,.no,.no,.no,.no,.no,.no,.av (.tup [inA (ixR7 x y),boA (x.ixV y).isSome])]) (ls:=[]) (ps:=[Puk 10 [(syA lispB [115,116,114,105,110,103,45,98,121,116,101])] (.tup [(inA 2),(boA true)]),Bn .eql 3 (.tmp 38) (.const (vi 1)) (vi x.ob.kind) (vi 1) bT,Bn .eql 3 (.tmp 47) (.const (vi 3)) (vi x.ob.kind) (vi 3) bF,Bn .eql 3 (.tmp 38) (.const (vi 1)) (vi y.ob.kind) (vi 1) (Value.bool y.isN),Puk 51 [(obA x.ob),(obA y.ob)] (.tup [(inA (ixR7 x y)),(boA ((x.ixV y).isSome))])]) Tryz.func17 (by kernel_rfl) (by kernel_rfl) ⟨p_rAr23,bin_ieq ((isN_k x).trans hNx),bin_ieq ((isT_k x).trans hTx),bin_ieq (isN_k y),p_rIx x hy.ok (by decide),trivial⟩
 | false =>
  cases hTx:x.isT with
  | true =>
   exact pwalk (an:=[.av (.tup [inA 2,boA true]),.no,.no,.no,.no,yF,.no,yT,.no,.no,.no,.av (boA y.isT),.no,.no,.no,.no,.no,.no,.no,.no,.no,.no,.no,.no,.no,.no,.no,.no,.no,.no,.no,.no,.av (.tup [inA (ixR7 x y),boA (x.ixV y).isSome])]) (ls:=[]) (ps:=[Puk 10 [(syA lispB [115,116,114,105,110,103,45,98,121,116,101])] (.tup [(inA 2),(boA true)]),Bn .eql 3 (.tmp 38) (.const (vi 1)) (vi x.ob.kind) (vi 1) bF,Bn .eql 3 (.tmp 47) (.const (vi 3)) (vi x.ob.kind) (vi 3) bT,Bn .eql 3 (.tmp 47) (.const (vi 3)) (vi y.ob.kind) (vi 3) (Value.bool y.isT),Puk 51 [(obA x.ob),(obA y.ob)] (.tup [(inA (ixR7 x y)),(boA ((x.ixV y).isSome))])]) Tryz.func17 (by kernel_rfl) (by kernel_rfl) ⟨p_rAr23,bin_ieq ((isN_k x).trans hNx),bin_ieq ((isT_k x).trans hTx),bin_ieq (isT_k y),p_rIx x hy.ok (by decide),trivial⟩
  | false =>
   exact pwalk (an:=[.av (.tup [inA 2,boA true]),.no,.no,.no,.no,yF,.no,yF,.no,.no,.no,.no,.no,.no,.no,.no,.no,.no,.no,.no,.no,.no,.no,.no,.no,.no,.no,.no,.no,.no,.av (.tup [inA (ixR7 x y),boA (x.ixV y).isSome])]) (ls:=[]) (ps:=[Puk 10 [(syA lispB [115,116,114,105,110,103,45,98,121,116,101])] (.tup [(inA 2),(boA true)]),Bn .eql 3 (.tmp 38) (.const (vi 1)) (vi x.ob.kind) (vi 1) bF,Bn .eql 3 (.tmp 47) (.const (vi 3)) (vi x.ob.kind) (vi 3) bF,Puk 51 [(obA x.ob),(obA y.ob)] (.tup [(inA (ixR7 x y)),(boA ((x.ixV y).isSome))])]) Tryz.func17 (by kernel_rfl) (by kernel_rfl) ⟨p_rAr23,bin_ieq ((isN_k x).trans hNx),bin_ieq ((isT_k x).trans hTx),p_rIx x hy.ok (by decide),trivial⟩
theorem p_rGd24 {x:Tr} (hx:Arg x):Puk 17 [syA lispB [98,121,116,101,45,115,116,114,105,110,103],rowA [x]] (boA (Tr.gd 24 x nilT)):=by
 exact pwalk (an:=[.av (.tup [inA 1,boA true]),.no,.no,.no,.no,.av (boA x.isN),.no,.av (boA x.isT),.no,.no,.no,.no,.no,.no,.no,.no,.no,.no,.no,.no,.no,.no,.no,.no,.no,.no,.no,.no,.av (.tup [.dt (.val (.int .u8 (ocR x))),boA x.octV.isSome])]) (ls:=[]) (ps:=[Puk 10 [(syA lispB [98,121,116,101,45,115,116,114,105,110,103])] (.tup [(inA 1),(boA true)]),Bn .eql 3 (.tmp 38) (.const (vi 1)) (vi x.ob.kind) (vi 1) (Value.bool x.isN),Bn .eql 3 (.tmp 47) (.const (vi 3)) (vi x.ob.kind) (vi 3) (Value.bool x.isT),Puk 52 [(obA x.ob)] (.tup [(.dt (.val (Value.int .u8 (ocR x)))),(boA x.octV.isSome)])]) Tryz.func17 (by kernel_rfl) (by kernel_rfl) ⟨p_rAr24,bin_ieq (isN_k x),bin_ieq (isT_k x),p_rOct hx.ok (by decide),trivial⟩
theorem p_rGd:∀ {i:Nat} {s:List UInt8} {a:Nat} {l:List Tr},primL[i]?=some (s,a)→(∀ t∈l,t.valid=true)→l.length=a→Puk 17 [syA lispB s,rowA l] (boA (Tr.gd i (l.getD 0 nilT) (l.getD 1 nilT)))
 | 0,_,_,[x,y,z],h,hl,_=>by cases h;exact p_rGd0 (Tr.valid_arg (hl x (List.mem_cons_self ..))) (Tr.valid_arg (hl y (List.mem_cons_of_mem _ (List.mem_cons_self ..)))) (Tr.valid_arg (hl z (List.mem_cons_of_mem _ (List.mem_cons_of_mem _ (List.mem_cons_self ..)))))
 | 0,_,_,[],h,_,hn=>by cases h;exact absurd hn (by simp)
 | 0,_,_,[_],h,_,hn=>by cases h;exact absurd hn (by simp)
 | 0,_,_,[_,_],h,_,hn=>by cases h;exact absurd hn (by simp)
 | 0,_,_,_::_::_::_::_,h,_,hn=>by cases h;simp at hn
 | 1,_,_,[x,y],h,hl,_=>by cases h;exact p_rGd1 (Tr.valid_arg (hl x (List.mem_cons_self ..))) (Tr.valid_arg (hl y (List.mem_cons_of_mem _ (List.mem_cons_self ..))))
 | 1,_,_,[],h,_,hn=>by cases h;exact absurd hn (by simp)
 | 1,_,_,[_],h,_,hn=>by cases h;exact absurd hn (by simp)
 | 1,_,_,_::_::_::_,h,_,hn=>by cases h;simp at hn
 | 2,_,_,[x,y],h,hl,_=>by cases h;exact p_rGd2 (Tr.valid_arg (hl x (List.mem_cons_self ..))) (Tr.valid_arg (hl y (List.mem_cons_of_mem _ (List.mem_cons_self ..))))
 | 2,_,_,[],h,_,hn=>by cases h;exact absurd hn (by simp)
 | 2,_,_,[_],h,_,hn=>by cases h;exact absurd hn (by simp)
 | 2,_,_,_::_::_::_,h,_,hn=>by cases h;simp at hn
 | 3,_,_,[x],h,hl,_=>by cases h;exact p_rGd3 (Tr.valid_arg (hl x (List.mem_cons_self ..)))
 | 3,_,_,[],h,_,hn=>by cases h;exact absurd hn (by simp)
 | 3,_,_,_::_::_,h,_,hn=>by cases h;simp at hn
 | 4,_,_,[x],h,hl,_=>by cases h;exact p_rGd4 (Tr.valid_arg (hl x (List.mem_cons_self ..)))
 | 4,_,_,[],h,_,hn=>by cases h;exact absurd hn (by simp)
 | 4,_,_,_::_::_,h,_,hn=>by cases h;simp at hn
 | 5,_,_,[x],h,hl,_=>by cases h;exact p_rGd5 (Tr.valid_arg (hl x (List.mem_cons_self ..)))
 | 5,_,_,[],h,_,hn=>by cases h;exact absurd hn (by simp)
 | 5,_,_,_::_::_,h,_,hn=>by cases h;simp at hn
 | 6,_,_,[x],h,hl,_=>by cases h;exact p_rGd6 (Tr.valid_arg (hl x (List.mem_cons_self ..)))
 | 6,_,_,[],h,_,hn=>by cases h;exact absurd hn (by simp)
 | 6,_,_,_::_::_,h,_,hn=>by cases h;simp at hn
 | 7,_,_,[x],h,hl,_=>by cases h;exact p_rGd7 (Tr.valid_arg (hl x (List.mem_cons_self ..)))
 | 7,_,_,[],h,_,hn=>by cases h;exact absurd hn (by simp)
 | 7,_,_,_::_::_,h,_,hn=>by cases h;simp at hn
 | 8,_,_,[x],h,hl,_=>by cases h;exact p_rGd8 (Tr.valid_arg (hl x (List.mem_cons_self ..)))
 | 8,_,_,[],h,_,hn=>by cases h;exact absurd hn (by simp)
 | 8,_,_,_::_::_,h,_,hn=>by cases h;simp at hn
 | 9,_,_,[x],h,hl,_=>by cases h;exact p_rGd9 (Tr.valid_arg (hl x (List.mem_cons_self ..)))
 | 9,_,_,[],h,_,hn=>by cases h;exact absurd hn (by simp)
 | 9,_,_,_::_::_,h,_,hn=>by cases h;simp at hn
 | 10,_,_,[x,y],h,hl,_=>by cases h;exact p_rGd10 (Tr.valid_arg (hl x (List.mem_cons_self ..))) (Tr.valid_arg (hl y (List.mem_cons_of_mem _ (List.mem_cons_self ..))))
 | 10,_,_,[],h,_,hn=>by cases h;exact absurd hn (by simp)
 | 10,_,_,[_],h,_,hn=>by cases h;exact absurd hn (by simp)
 | 10,_,_,_::_::_::_,h,_,hn=>by cases h;simp at hn
 | 11,_,_,[x,y],h,hl,_=>by cases h;exact p_rGd11 (Tr.valid_arg (hl x (List.mem_cons_self ..))) (Tr.valid_arg (hl y (List.mem_cons_of_mem _ (List.mem_cons_self ..))))
 | 11,_,_,[],h,_,hn=>by cases h;exact absurd hn (by simp)
 | 11,_,_,[_],h,_,hn=>by cases h;exact absurd hn (by simp)
 | 11,_,_,_::_::_::_,h,_,hn=>by cases h;simp at hn
 | 12,_,_,[x],h,hl,_=>by cases h;exact p_rGd12 (Tr.valid_arg (hl x (List.mem_cons_self ..)))
 | 12,_,_,[],h,_,hn=>by cases h;exact absurd hn (by simp)
 | 12,_,_,_::_::_,h,_,hn=>by cases h;simp at hn
 | 13,_,_,[x],h,hl,_=>by cases h;exact p_rGd13 (Tr.valid_arg (hl x (List.mem_cons_self ..)))
 | 13,_,_,[],h,_,hn=>by cases h;exact absurd hn (by simp)
 | 13,_,_,_::_::_,h,_,hn=>by cases h;simp at hn
 | 14,_,_,[x,y],h,hl,_=>by cases h;exact p_rGd14 (Tr.valid_arg (hl x (List.mem_cons_self ..))) (Tr.valid_arg (hl y (List.mem_cons_of_mem _ (List.mem_cons_self ..))))
 | 14,_,_,[],h,_,hn=>by cases h;exact absurd hn (by simp)
 | 14,_,_,[_],h,_,hn=>by cases h;exact absurd hn (by simp)
 | 14,_,_,_::_::_::_,h,_,hn=>by cases h;simp at hn
 | 15,_,_,[x],h,hl,_=>by cases h;exact p_rGd15 (Tr.valid_arg (hl x (List.mem_cons_self ..)))
 | 15,_,_,[],h,_,hn=>by cases h;exact absurd hn (by simp)
 | 15,_,_,_::_::_,h,_,hn=>by cases h;simp at hn
 | 16,_,_,[x],h,hl,_=>by cases h;exact p_rGd16 (Tr.valid_arg (hl x (List.mem_cons_self ..)))
 | 16,_,_,[],h,_,hn=>by cases h;exact absurd hn (by simp)
 | 16,_,_,_::_::_,h,_,hn=>by cases h;simp at hn
 | 17,_,_,[x],h,hl,_=>by cases h;exact p_rGd17 (Tr.valid_arg (hl x (List.mem_cons_self ..)))
 | 17,_,_,[],h,_,hn=>by cases h;exact absurd hn (by simp)
 | 17,_,_,_::_::_,h,_,hn=>by cases h;simp at hn
 | 18,_,_,[x],h,hl,_=>by cases h;exact p_rGd18 (Tr.valid_arg (hl x (List.mem_cons_self ..)))
 | 18,_,_,[],h,_,hn=>by cases h;exact absurd hn (by simp)
 | 18,_,_,_::_::_,h,_,hn=>by cases h;simp at hn
 | 19,_,_,[x],h,hl,_=>by cases h;exact p_rGd19 (Tr.valid_arg (hl x (List.mem_cons_self ..)))
 | 19,_,_,[],h,_,hn=>by cases h;exact absurd hn (by simp)
 | 19,_,_,_::_::_,h,_,hn=>by cases h;simp at hn
 | 20,_,_,[x,y],h,hl,_=>by cases h;exact p_rGd20 (Tr.valid_arg (hl x (List.mem_cons_self ..))) (Tr.valid_arg (hl y (List.mem_cons_of_mem _ (List.mem_cons_self ..))))
 | 20,_,_,[],h,_,hn=>by cases h;exact absurd hn (by simp)
 | 20,_,_,[_],h,_,hn=>by cases h;exact absurd hn (by simp)
 | 20,_,_,_::_::_::_,h,_,hn=>by cases h;simp at hn
 | 21,_,_,[x,y],h,hl,_=>by cases h;exact p_rGd21 (Tr.valid_arg (hl x (List.mem_cons_self ..))) (Tr.valid_arg (hl y (List.mem_cons_of_mem _ (List.mem_cons_self ..))))
 | 21,_,_,[],h,_,hn=>by cases h;exact absurd hn (by simp)
 | 21,_,_,[_],h,_,hn=>by cases h;exact absurd hn (by simp)
 | 21,_,_,_::_::_::_,h,_,hn=>by cases h;simp at hn
 | 22,_,_,[x],h,hl,_=>by cases h;exact p_rGd22 (Tr.valid_arg (hl x (List.mem_cons_self ..)))
 | 22,_,_,[],h,_,hn=>by cases h;exact absurd hn (by simp)
 | 22,_,_,_::_::_,h,_,hn=>by cases h;simp at hn
 | 23,_,_,[x,y],h,hl,_=>by cases h;exact p_rGd23 (Tr.valid_arg (hl x (List.mem_cons_self ..))) (Tr.valid_arg (hl y (List.mem_cons_of_mem _ (List.mem_cons_self ..))))
 | 23,_,_,[],h,_,hn=>by cases h;exact absurd hn (by simp)
 | 23,_,_,[_],h,_,hn=>by cases h;exact absurd hn (by simp)
 | 23,_,_,_::_::_::_,h,_,hn=>by cases h;simp at hn
 | 24,_,_,[x],h,hl,_=>by cases h;exact p_rGd24 (Tr.valid_arg (hl x (List.mem_cons_self ..)))
 | 24,_,_,[],h,_,hn=>by cases h;exact absurd hn (by simp)
 | 24,_,_,_::_::_,h,_,hn=>by cases h;simp at hn
 | _+25,_,_,_,h,_,_=>by cases h
end Go.Proofs.YthhknjlmjefklaaGreatDoor
namespace Go.Proofs.YthhknjlmjefklaaGreatDoor
open Go.RowKit
open Te
theorem w_wAr {ws:List (List Dt)} {p n:List UInt8} {a:Int} (h:Puk 38 [syA p n] (.tup [inA a,boA true])):Puk 37 [.dt (.row ws),syA p n] (.tup [inA a,boA true]) :=
 pwalk (an:=[.av (.tup [inA a,boA true])]) (ls:=[]) (ps:=[Puk 38 [(syA p n)] (.tup [(inA a),(boA true)])]) Tryz.func37 (by kernel_rfl) (by kernel_rfl) ⟨h,trivial⟩
def GOK (wr:List (List Dt)):Prop:=∀ n i a,pix primL 0 n=some (i,a)→Puk 39 [.dt (.row wr),syA lispB n] (.tup [zFn,boA false])
theorem GOK.gc {wr:List (List Dt)} {n:List UInt8} {i a:Nat} (hp:pix primL 0 n=some (i,a)):GC wr n a:=⟨w_wAr (p_oAri (pix_get hp)),p_oAri (pix_get hp)⟩
end Go.Proofs.YthhknjlmjefklaaGreatDoor
namespace Go.Proofs.YthhknjlmjefklaaGreatDoor
open Go.RowKit
open Te
theorem w_rTm1 {ws:List (List Dt)} {t:Te} {env:Bnd} {s l:Nat} {x:Tr} (hl:l≤s) (hs:s≤99999) (h:Suk rtF [.ptr 0 0,teA t,bnA env] (rtX ws s) (.tup [trA x,inA 0]) (rtX ws l)):Puk 15 [.dt (.row ws),teA t,bnA env,inA s] (.tup [trA x,inA (s - l:Int),inA 0]) :=
 pwalk (an:=[.av (inA s),yF,.av (inA (s - l:Int))]) (ls:=[.scl 3 3 [2] (.tup [trA x,inA 0]) [some (.cells [.dt (.row ws),inA l])]]) (ps:=[(vi ↑s)=(vi (if 0 > ↑s then 0 else ↑s)),Suk 49 [AV.ptr 0 0,teA t,AV.dt (Dt.row (bnT env))] [some (Bx.cells [AV.dt (Dt.row ws),AV.dt (Dt.val (vi ↑s))])] (AV.tup [trA x,inA 0]) [some (Bx.cells [AV.dt (Dt.row ws),inA ↑l])],Bn .neq 44 (.tmp 31) (.const (vi 0)) (vi 0) (vi 0) bF,Bn .sub 3 (.tmp 36) (.tmp 40) (vi ↑s) (vi ↑l) (vi (↑s - ↑l))]) Tryz.func15 (by kernel_rfl) (by kernel_rfl) ⟨by rw [if_neg (by omega)],h,bin_ine (by simp),bin_isub rfl (by omega) (by omega),trivial⟩
end Go.Proofs.YthhknjlmjefklaaGreatDoor
