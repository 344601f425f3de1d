/- The expansions of the macros that the built-in text uses. -/
import Derived.Test.YthhknjlmjefklaaGreatDoorMK
import Derived.Test.YthhknjlmjefklaaGreatDoorMJ
namespace Go.Proofs.YthhknjlmjefklaaGreatDoor
open Go.RowKit
abbrev expF:FuncId:=190
abbrev rstF:FuncId:=223
abbrev calF:FuncId:=189
abbrev symB (n:List UInt8):Ob:=⟨2,[],[],lispB,n,[],[]⟩
theorem w_app {es rs:List (List Dt)} {a b o:Ob} (n0:es.length≠0) (n1:es.length≠1) (h0:IxAt es 0 7 (encL a)) (hs:SlcOK es 7 1 (es.length:Int) rs) (hr:Puk rstF [stA [97,112,112,101,110,100],.dt (.row rs)] (obA b)) (hc:Puk calF [stA [98,105,110,97,114,121,45,97,112,112,101,110,100],.dt (.row [encL a,encL b])] (obA o)):Puk expF [stA [97,112,112,101,110,100],.dt (.row es)] (.tup [obA o,boA true]) :=
 pwalk (an:=[.av (inA es.length),.no,.no,.no,yF,yF,.no,.av (.pin ((encL a).map .dt)),.av (.dt (.row rs)),.av (obA b),.av (obA o)]) (ls:=[]) (ps:=[(vi ↑es.length)=(vi ↑es.length),Bn .eql 3 (.tmp 29) (.const (vi 0)) (vi ↑es.length) (vi 0) bF,Bn .eql 3 (.tmp 34) (.const (vi 1)) (vi ↑es.length) (vi 1) bF,IxAt es 0 7 (encL a),SlcOK es 7 ((some 1).getD 0) (none.getD ↑es.length) rs,(none:Option Int)=none∨(none:Option Int)=none,Puk 223 [(stA [97,112,112,101,110,100]),(.dt (.row rs))] (obA b),Puk 189 [(stA [98,105,110,97,114,121,45,97,112,112,101,110,100]),(.dt (.row [encL a,encL b]))] (obA o)]) Tryz.func190 (by kernel_rfl) (by kernel_rfl) ⟨rfl,bin_ieq (decide_eq_false (by omega)),bin_ieq (decide_eq_false (by omega)),h0,hs,.inl rfl,hr,hc,trivial⟩
theorem w_and {es rs:List (List Dt)} {a b o:Ob} (n0:es.length≠0) (n1:es.length≠1) (h0:IxAt es 0 7 (encL a)) (hs:SlcOK es 7 1 (es.length:Int) rs) (hr:Puk rstF [stA [97,110,100],.dt (.row rs)] (obA b)) (hc:Puk calF [stA [105,102],.dt (.row [encL a,encL b,encL nilO])] (obA o)):Puk expF [stA [97,110,100],.dt (.row es)] (.tup [obA o,boA true]) :=
 pwalk (an:=[.av (inA es.length),.no,.no,.no,.no,yF,yF,.no,.av (.pin ((encL a).map .dt)),.av (.dt (.row rs)),.av (obA b),.av (obA nilO),.av (obA o)]) (ls:=[]) (ps:=[(vi ↑es.length)=(vi ↑es.length),Bn .eql 3 (.tmp 62) (.const (vi 0)) (vi ↑es.length) (vi 0) bF,Bn .eql 3 (.tmp 67) (.const (vi 1)) (vi ↑es.length) (vi 1) bF,IxAt es 0 7 (encL a),SlcOK es 7 ((some 1).getD 0) (none.getD ↑es.length) rs,(none:Option Int)=none∨(none:Option Int)=none,Puk 223 [(stA [97,110,100]),(.dt (.row rs))] (obA b),Puk 28 [] (obA nilO),Puk 189 [(stA [105,102]),(.dt (.row [encL a,encL b,[(.val (vi 2)),(.val (str nilO.num)),(.val (str nilO.den)),(.val (str nilO.sp)),(.val (str nilO.sn)),(.val (str nilO.text)),(.row (List.map Ob.enc nilO.pair))]]))] (obA o)]) Tryz.func190 (by kernel_rfl) (by kernel_rfl) ⟨rfl,bin_ieq (decide_eq_false (by omega)),bin_ieq (decide_eq_false (by omega)),h0,hs,.inl rfl,hr,p_rNil,hc,trivial⟩
theorem w_or {es rs:List (List Dt)} {a b o:Ob} (n0:es.length≠0) (n1:es.length≠1) (h0:IxAt es 0 7 (encL a)) (hs:SlcOK es 7 1 (es.length:Int) rs) (hr:Puk rstF [stA [111,114],.dt (.row rs)] (obA b)) (hc:Puk calF [stA [105,102],.dt (.row [encL a,encL a,encL b])] (obA o)):Puk expF [stA [111,114],.dt (.row es)] (.tup [obA o,boA true]) :=
 pwalk (an:=[.av (inA es.length),.no,.no,.no,.no,.no,yF,yF,.no,.av (.pin ((encL a).map .dt)),.av (.pin ((encL a).map .dt)),.av (.dt (.row rs)),.av (obA b),.av (obA o)]) (ls:=[]) (ps:=[(vi ↑es.length)=(vi ↑es.length),Bn .eql 3 (.tmp 62) (.const (vi 0)) (vi ↑es.length) (vi 0) bF,Bn .eql 3 (.tmp 67) (.const (vi 1)) (vi ↑es.length) (vi 1) bF,IxAt es 0 7 (encL a),IxAt es 0 7 (encL a),SlcOK es 7 ((some 1).getD 0) (none.getD ↑es.length) rs,(none:Option Int)=none∨(none:Option Int)=none,Puk 223 [(stA [111,114]),(.dt (.row rs))] (obA b),Puk 189 [(stA [105,102]),(.dt (.row [encL a,encL a,encL b]))] (obA o)]) Tryz.func190 (by kernel_rfl) (by kernel_rfl) ⟨rfl,bin_ieq (decide_eq_false (by omega)),bin_ieq (decide_eq_false (by omega)),h0,h0,hs,.inl rfl,hr,hc,trivial⟩
theorem w_lst {es rs:List (List Dt)} {a b o:Ob} (n0:es.length≠0) (h0:IxAt es 0 7 (encL a)) (hs:SlcOK es 7 1 (es.length:Int) rs) (hr:Puk rstF [stA [108,105,115,116],.dt (.row rs)] (obA b)) (hc:Puk calF [stA [99,111,110,115],.dt (.row [encL a,encL b])] (obA o)):Puk expF [stA [108,105,115,116],.dt (.row es)] (.tup [obA o,boA true]) :=
 pwalk (an:=[.av (inA es.length),.no,yF,.av (.pin ((encL a).map .dt)),.av (.dt (.row rs)),.av (obA b),.av (obA o)]) (ls:=[]) (ps:=[(vi ↑es.length)=(vi ↑es.length),Bn .eql 3 (.tmp 14) (.const (vi 0)) (vi ↑es.length) (vi 0) bF,IxAt es 0 7 (encL a),SlcOK es 7 ((some 1).getD 0) (none.getD ↑es.length) rs,(none:Option Int)=none∨(none:Option Int)=none,Puk 223 [(stA [108,105,115,116]),(.dt (.row rs))] (obA b),Puk 189 [(stA [99,111,110,115]),(.dt (.row [encL a,encL b]))] (obA o)]) Tryz.func190 (by kernel_rfl) (by kernel_rfl) ⟨rfl,bin_ieq (decide_eq_false (by omega)),h0,hs,.inl rfl,hr,hc,trivial⟩
theorem w_lst0:Puk expF [stA [108,105,115,116],.dt (.row [])] (.tup [obA nilO,boA true]) :=
 pwalk (an:=[.no,.no,.no,.av (obA nilO)]) (ls:=[]) (ps:=[Puk 28 [] (obA nilO)]) Tryz.func190 (by kernel_rfl) (by kernel_rfl) ⟨p_rNil,trivial⟩
theorem p_TruthT:Puk 147 [boA true] (obA tO):=pwalk (an:=[.av (obA tO)]) (ls:=[]) (ps:=[Puk 64 [] (obA tO)]) Tryz.func147 (by kernel_rfl) (by kernel_rfl) ⟨p_rT,trivial⟩
theorem p_TruthF:Puk 147 [boA false] (obA nilO):=pwalk (an:=[.av (obA nilO)]) (ls:=[]) (ps:=[Puk 28 [] (obA nilO)]) Tryz.func147 (by kernel_rfl) (by kernel_rfl) ⟨p_rNil,trivial⟩
theorem w_app0:Puk expF [stA [97,112,112,101,110,100],.dt (.row [])] (.tup [obA nilO,boA true]) :=
 pwalk (an:=[.no,.no,.no,.no,.no,.av (obA nilO),.no]) (ls:=[]) (ps:=[Puk 28 [] (obA nilO)]) Tryz.func190 (by kernel_rfl) (by kernel_rfl) ⟨p_rNil,trivial⟩
theorem w_and0:Puk expF [stA [97,110,100],.dt (.row [])] (.tup [obA tO,boA true]) :=
 pwalk (an:=[.no,.no,.no,.no,.no,.no,.no,.av (obA tO)]) (ls:=[]) (ps:=[Puk 147 [(boA true)] (obA tO)]) Tryz.func190 (by kernel_rfl) (by kernel_rfl) ⟨p_TruthT,trivial⟩
theorem w_or0:Puk expF [stA [111,114],.dt (.row [])] (.tup [obA nilO,boA true]) :=
 pwalk (an:=[.no,.no,.no,.no,.no,.no,.no,.no,.av (obA nilO)]) (ls:=[]) (ps:=[Puk 147 [(boA false)] (obA nilO)]) Tryz.func190 (by kernel_rfl) (by kernel_rfl) ⟨p_TruthF,trivial⟩
theorem w_app1 (a:Ob):Puk expF [stA [97,112,112,101,110,100],.dt (.row [encL a])] (.tup [obA a,boA true]) :=
 pwalk (an:=[.no,.no,.no,.no,.no,.no,.no]) (ls:=[]) (ps:=[]) Tryz.func190 (by kernel_rfl) (by kernel_rfl) trivial
theorem w_and1 (a:Ob):Puk expF [stA [97,110,100],.dt (.row [encL a])] (.tup [obA a,boA true]) :=
 pwalk (an:=[.no,.no,.no,.no,.no,.no,.no,.no]) (ls:=[]) (ps:=[]) Tryz.func190 (by kernel_rfl) (by kernel_rfl) trivial
theorem w_or1 (a:Ob):Puk expF [stA [111,114],.dt (.row [encL a])] (.tup [obA a,boA true]) :=
 pwalk (an:=[.no,.no,.no,.no,.no,.no,.no,.no,.no]) (ls:=[]) (ps:=[]) Tryz.func190 (by kernel_rfl) (by kernel_rfl) trivial
theorem w_cond {es rs:List (List Dt)} {x a b c o:Ob} (n0:es.length≠0) (h0:IxAt es 0 7 (encL x)) (hi:Puk 63 [obA x] (.tup [.dt (.row [encL a,encL b]),boA true])) (hs:SlcOK es 7 1 (es.length:Int) rs) (hr:Puk rstF [stA [99,111,110,100],.dt (.row rs)] (obA c)) (hc:Puk calF [stA [105,102],.dt (.row [encL a,encL b,encL c])] (obA o)):Puk expF [stA [99,111,110,100],.dt (.row es)] (.tup [obA o,boA true]) :=
 pwalk (an:=[.av (inA es.length),.no,.no,.no,.no,.no,.no,yF,.av (.pin ((encL x).map .dt)),.av (.tup [.dt (.row [encL a,encL b]),boA true]),.no,.no,.no,.no,.av (.dt (.row rs)),.av (obA c),.av (obA o)]) (ls:=[]) (ps:=[(vi ↑es.length)=(vi ↑es.length),Bn .eql 3 (.tmp 98) (.const (vi 0)) (vi ↑es.length) (vi 0) bF,IxAt es 0 7 (encL x),Puk 63 [(obA x)] (.tup [(.dt (.row [encL a,encL b])),(boA true)]),SlcOK es 7 ((some 1).getD 0) (none.getD ↑es.length) rs,(none:Option Int)=none∨(none:Option Int)=none,Puk 223 [(stA [99,111,110,100]),(.dt (.row rs))] (obA c),Puk 189 [(stA [105,102]),(.dt (.row [encL a,encL b,encL c]))] (obA o)]) Tryz.func190 (by kernel_rfl) (by kernel_rfl) ⟨rfl,bin_ieq (decide_eq_false (by omega)),h0,hi,hs,.inl rfl,hr,hc,trivial⟩
theorem w_cond0:Puk expF [stA [99,111,110,100],.dt (.row [])] (.tup [obA nilO,boA true]) :=
 pwalk (an:=[.no,.no,.no,.no,.no,.no,.no,.no,.av (obA nilO)]) (ls:=[]) (ps:=[Puk 28 [] (obA nilO)]) Tryz.func190 (by kernel_rfl) (by kernel_rfl) ⟨p_rNil,trivial⟩
theorem w_sum2 {a b o:Ob} (hc:Puk calF [stA [98,105,110,97,114,121,45,43],.dt (.row [encL a,encL b])] (obA o)):Puk 224 [stA [43],stA [98,105,110,97,114,121,45,43],inA 0,.dt (.row [encL a,encL b])] (obA o) :=
 pwalk (an:=[.no,.no,.no,.no,.no,.no,.av (obA o)]) (ls:=[]) (ps:=[Puk 189 [(stA [98,105,110,97,114,121,45,43]),(.dt (.row [encL a,encL b]))] (obA o)]) Tryz.func224 (by kernel_rfl) (by kernel_rfl) ⟨hc,trivial⟩
theorem w_sum3 {es rs:List (List Dt)} {a b o:Ob} (n0:3≤es.length) (h0:IxAt es 0 7 (encL a)) (hs:SlcOK es 7 1 (es.length:Int) rs) (hr:Puk rstF [stA [43],.dt (.row rs)] (obA b)) (hc:Puk calF [stA [98,105,110,97,114,121,45,43],.dt (.row [encL a,encL b])] (obA o)):Puk 224 [stA [43],stA [98,105,110,97,114,121,45,43],inA 0,.dt (.row es)] (obA o) :=
 pwalk (an:=[.av (inA es.length),yF,yF,yF,.av (.pin ((encL a).map .dt)),.av (.dt (.row rs)),.av (obA b),.av (obA o)]) (ls:=[]) (ps:=[(vi ↑es.length)=(vi ↑es.length),Bn .eql 3 (.tmp 10) (.const (vi 0)) (vi ↑es.length) (vi 0) bF,Bn .eql 3 (.tmp 10) (.const (vi 1)) (vi ↑es.length) (vi 1) bF,Bn .eql 3 (.tmp 10) (.const (vi 2)) (vi ↑es.length) (vi 2) bF,IxAt es 0 7 (encL a),SlcOK es 7 ((some 1).getD 0) (none.getD ↑es.length) rs,(none:Option Int)=none∨(none:Option Int)=none,Puk 223 [(stA [43]),(.dt (.row rs))] (obA b),Puk 189 [(stA [98,105,110,97,114,121,45,43]),(.dt (.row [encL a,encL b]))] (obA o)]) Tryz.func224 (by kernel_rfl) (by kernel_rfl) ⟨rfl,bin_ieq (decide_eq_false (by omega)),bin_ieq (decide_eq_false (by omega)),bin_ieq (decide_eq_false (by omega)),h0,hs,.inl rfl,hr,hc,trivial⟩
theorem w_plus {es:List (List Dt)} {o:Ob} (h:Puk 224 [stA [43],stA [98,105,110,97,114,121,45,43],inA 0,.dt (.row es)] (obA o)):Puk expF [stA [43],.dt (.row es)] (.tup [obA o,boA true]) :=
 pwalk (an:=[.av (inA es.length),.no,.no,.no,.no,.no,.no,.no,.av (obA o)]) (ls:=[]) (ps:=[(vi ↑es.length)=(vi ↑es.length),Puk 224 [(stA [43]),(stA [98,105,110,97,114,121,45,43]),(inA 0),(.dt (.row es))] (obA o)]) Tryz.func190 (by kernel_rfl) (by kernel_rfl) ⟨rfl,h,trivial⟩
theorem p_expand {n:List UInt8} {l:List Tr} {o:Tr} (h:Rdr.expand n l=some o) (hl:l.length≤1000):Puk expF [stA n,rowA l] (.tup [trA o,boA true]):=by
 have hln:∀ l:List Tr,(encOs l).length=l.length:=fun l=>List.length_map ..
 unfold Rdr.expand at h
 split at h
 ·rename_i e;subst e
  split at h
  ·cases h;exact w_lst0
  ·rename_i x r
   cases h
   rw [List.length_cons] at hl
   exact w_lst (es:=encOs (x::r)) (rs:=encOs r) (by rw [hln,List.length_cons];omega) (ix_os0 x r) (slc_os x r) (p_rest12 _ (by omega)) (p_call _ (l:=[x,Rdr.call [108,105,115,116] r]) (by show 2≤10000;omega))
 split at h
 ·rename_i e;subst e
  split at h
  ·cases h;exact w_app0
  ·cases h;exact w_app1 _
  ·rename_i x r hne
   cases h
   rw [List.length_cons] at hl
   have:r.length≠0:=fun e=>by
    obtain rfl:=List.eq_nil_of_length_eq_zero e
    exact hne rfl
   exact w_app (es:=encOs (x::r)) (rs:=encOs r) (by rw [hln,List.length_cons];omega) (by rw [hln,List.length_cons];omega) (ix_os0 x r) (slc_os x r) (p_rest12 _ (by omega)) (p_call _ (l:=[x,Rdr.call [97,112,112,101,110,100] r]) (by show 2≤10000;omega))
 split at h
 ·rename_i e;subst e
  split at h
  ·cases h;exact w_and0
  ·cases h;exact w_and1 _
  ·rename_i x r hne
   cases h
   rw [List.length_cons] at hl
   have:r.length≠0:=fun e=>by
    obtain rfl:=List.eq_nil_of_length_eq_zero e
    exact hne rfl
   exact w_and (es:=encOs (x::r)) (rs:=encOs r) (by rw [hln,List.length_cons];omega) (by rw [hln,List.length_cons];omega) (ix_os0 x r) (slc_os x r) (p_rest12 _ (by omega)) (p_call _ (l:=[x,Rdr.call [97,110,100] r,Rdr.nilX]) (by show 3≤10000;omega))
 split at h
 ·rename_i e;subst e
  split at h
  ·cases h;exact w_or0
  ·cases h;exact w_or1 _
  ·rename_i x r hne
   cases h
   rw [List.length_cons] at hl
   have:r.length≠0:=fun e=>by
    obtain rfl:=List.eq_nil_of_length_eq_zero e
    exact hne rfl
   exact w_or (es:=encOs (x::r)) (rs:=encOs r) (by rw [hln,List.length_cons];omega) (by rw [hln,List.length_cons];omega) (ix_os0 x r) (slc_os x r) (p_rest12 _ (by omega)) (p_call _ (l:=[x,x,Rdr.call [111,114] r]) (by show 3≤10000;omega))
 split at h
 ·rename_i e;subst e
  split at h
  ·cases h;exact w_cond0
  ·rename_i x r
   split at h
   ·rename_i a c hi
    cases h
    rw [List.length_cons] at hl
    have hx:=items_list hi
    subst hx
    exact w_cond (es:=encOs (Tr.list [a,c]::r)) (rs:=encOs r) (by rw [hln,List.length_cons];omega) (ix_os0 _ r) (p_rItems (l:=[a,c]) (by show 2≤10000;omega)) (slc_os _ r) (p_rest12 _ (by omega)) (p_call _ (l:=[a,c,Rdr.call [99,111,110,100] r]) (by show 3≤10000;omega))
   ·cases h
 split at h
 ·rename_i e;subst e
  split at h
  ·rename_i x y
   cases h
   exact w_plus (w_sum2 (p_call _ (l:=[x,y]) (by show 2≤10000;omega)))
  ·rename_i x y z r
   cases h
   simp only [List.length_cons] at hl
   exact w_plus (w_sum3 (es:=encOs (x::y::z::r)) (rs:=encOs (y::z::r)) (by rw [hln];simp only [List.length_cons];omega) (ix_os0 x _) (slc_os x _) (p_rest12 _ (by simp only [List.length_cons];omega)) (p_call _ (l:=[x,Rdr.call [43] (y::z::r)]) (by show 2≤10000;omega)))
  ·cases h
 ·cases h
theorem w_bi1:Puk 135 [syA lispB [108,105,115,116]] (boA true):=pwalk (an:=[.no,.no]) (ls:=[]) (ps:=[]) Tryz.func135 (by kernel_rfl) (by kernel_rfl) trivial
theorem w_bi3:Puk 135 [syA lispB [97,110,100]] (boA true):=pwalk (an:=[.no,.no,.no,.no]) (ls:=[]) (ps:=[]) Tryz.func135 (by kernel_rfl) (by kernel_rfl) trivial
theorem w_bi4:Puk 135 [syA lispB [111,114]] (boA true):=pwalk (an:=[.no,.no,.no,.no,.no]) (ls:=[]) (ps:=[]) Tryz.func135 (by kernel_rfl) (by kernel_rfl) trivial
theorem w_bi5:Puk 135 [syA lispB [99,111,110,100]] (boA true):=pwalk (an:=[.no,.no,.no,.no,.no,.no]) (ls:=[]) (ps:=[]) Tryz.func135 (by kernel_rfl) (by kernel_rfl) trivial
theorem w_bi6:Puk 135 [syA lispB [43]] (boA true):=pwalk (an:=[.no,.no,.no,.no,.no,.no,.no]) (ls:=[]) (ps:=[]) Tryz.func135 (by kernel_rfl) (by kernel_rfl) trivial
theorem w_bi13:Puk 135 [syA lispB [97,112,112,101,110,100]] (boA true):=pwalk (an:=[.no,.no,.no,.no,.no,.no,.no,.no,.no,.no,.no,.no,.no,.no]) (ls:=[]) (ps:=[]) Tryz.func135 (by kernel_rfl) (by kernel_rfl) trivial
theorem p_biF {n:List UInt8} (h:n ∉ Rdr.macros):Puk 135 [syA lispB n] (boA false):=by
 have ne:∀ m∈Rdr.macros,decide (n=m)=false:=fun m hm=>decide_eq_false fun e=>h (e ▸ hm)
 exact pwalk (an:=[.no,yF,yF,yF,yF,yF,yF,yF,yF,yF,yF,yF,yF,yF]) (ls:=[]) (ps:=[Bn .eql 9 (.tmp 7) (.const (Value.string { data:=#[108,105,115,116]:ByteArray })) (str n) (str [108,105,115,116]) bF,Bn .eql 9 (.tmp 7) (.const (Value.string { data:=#[108,105,115,116,42]:ByteArray })) (str n) (str [108,105,115,116,42]) bF,Bn .eql 9 (.tmp 7) (.const (Value.string { data:=#[97,110,100]:ByteArray })) (str n) (str [97,110,100]) bF,Bn .eql 9 (.tmp 7) (.const (Value.string { data:=#[111,114]:ByteArray })) (str n) (str [111,114]) bF,Bn .eql 9 (.tmp 7) (.const (Value.string { data:=#[99,111,110,100]:ByteArray })) (str n) (str [99,111,110,100]) bF,Bn .eql 9 (.tmp 7) (.const (Value.string { data:=#[43]:ByteArray })) (str n) (str [43]) bF,Bn .eql 9 (.tmp 7) (.const (Value.string { data:=#[42]:ByteArray })) (str n) (str [42]) bF,Bn .eql 9 (.tmp 7) (.const (Value.string { data:=#[45]:ByteArray })) (str n) (str [45]) bF,Bn .eql 9 (.tmp 7) (.const (Value.string { data:=#[47]:ByteArray })) (str n) (str [47]) bF,Bn .eql 9 (.tmp 7) (.const (Value.string { data:=#[60,61]:ByteArray })) (str n) (str [60,61]) bF,Bn .eql 9 (.tmp 7) (.const (Value.string { data:=#[62]:ByteArray })) (str n) (str [62]) bF,Bn .eql 9 (.tmp 7) (.const (Value.string { data:=#[62,61]:ByteArray })) (str n) (str [62,61]) bF,Bn .eql 9 (.tmp 7) (.const (Value.string { data:=#[97,112,112,101,110,100]:ByteArray })) (str n) (str [97,112,112,101,110,100]) bF]) Tryz.func135 (by kernel_rfl) (by kernel_rfl) ⟨bin_seq (ne _ (by decide)),bin_seq (ne _ (by decide)),bin_seq (ne _ (by decide)),bin_seq (ne _ (by decide)),bin_seq (ne _ (by decide)),bin_seq (ne _ (by decide)),bin_seq (ne _ (by decide)),bin_seq (ne _ (by decide)),bin_seq (ne _ (by decide)),bin_seq (ne _ (by decide)),bin_seq (ne _ (by decide)),bin_seq (ne _ (by decide)),bin_seq (ne _ (by decide)),trivial⟩
end Go.Proofs.YthhknjlmjefklaaGreatDoor
namespace Go.Proofs.YthhknjlmjefklaaGreatDoor
open Go.RowKit
abbrev lrow (n:List UInt8):List Dt:=[.val (str lispB),.val (str n)]
abbrev encF (f:Rdr.Fnc):List Dt:=[.val (str lispB),.val (str f.nm),.row (f.ps.map lrow),.val (.int .i64 1),.val (.int .i64 f.guard.kind),.val (str f.guard.np),.val (str f.guard.nn),.val (.int .i64 f.guard.val.kind),.val (str f.guard.val.num),.val (str f.guard.val.den),.val (str f.guard.val.sp),.val (str f.guard.val.sn),.val (str f.guard.val.text),.row (f.guard.val.pair.map Ob.enc),.row (f.guard.args.map Te.enc),.val (.int .i64 f.body.kind),.val (str f.body.np),.val (str f.body.nn),.val (.int .i64 f.body.val.kind),.val (str f.body.val.num),.val (str f.body.val.den),.val (str f.body.val.sp),.val (str f.body.val.sn),.val (str f.body.val.text),.row (f.body.val.pair.map Ob.enc),.row (f.body.args.map Te.enc),.val (.int .i64 f.measure.kind),.val (str f.measure.np),.val (str f.measure.nn),.val (.int .i64 f.measure.val.kind),.val (str f.measure.val.num),.val (str f.measure.val.den),.val (str f.measure.val.sp),.val (str f.measure.val.sn),.val (str f.measure.val.text),.row (f.measure.val.pair.map Ob.enc),.row (f.measure.args.map Te.enc)]
abbrev encE (f:Rdr.Fnc):List Dt:=[.val (.int .i64 3),.val (str lispB),.val (str f.nm),.val (str []),.row [],.val (str []),.val (str []),.row [],.val (.bool false),.val (.int .i64 0),.val (str []),.val (str []),.val (.int .i64 0),.val (str []),.val (str []),.val (str []),.val (str []),.val (str []),.row [],.row [],.row [encF f],.row [],.row [],.row [],.val (str []),.val (str []),.row [],.row [],.row [],.row [],.val (str []),.val (.int .u64 0)]
abbrev encP (is:List (List Dt)):List Dt:=[.val (.int .i64 1),.val (str lispB),.val (str [117,115,101,114,45,112,97,99,107,97,103,101]),.val (str [117,115,101,114]),.row is,.val (str []),.val (str []),.row [],.val (.bool false),.val (.int .i64 0),.val (str []),.val (str []),.val (.int .i64 0),.val (str []),.val (str []),.val (str []),.val (str []),.val (str []),.row [],.row [],.row [],.row [],.row [],.row [],.val (str []),.val (str []),.row [],.row [],.row [],.row [],.val (str []),.val (.int .u64 0)]
theorem ix_E {ws:List Rdr.Fnc} {r:List (List Dt)} {i:Nat} {f:Rdr.Fnc} (h:ws[i]?=some f):IxAt (ws.map encE++r) (i:Int) 32 (encE f):=⟨Int.natCast_nonneg _,by
 have hl:=(List.getElem?_eq_some_iff.1 h).1
 rw [Int.toNat_natCast,List.getElem?_append_left (by rw [List.length_map];exact hl),List.getElem?_map,h]
 rfl,rfl⟩
theorem lenN (l:List (List UInt8)):Value.int .i64 (l.length:Int)=Value.int .i64 ((l.map lrow).length:Int):=by rw [List.length_map]
theorem p_rArU {n:List UInt8} (hn:∀ x∈primL,n≠x.1):Puk 10 [syA lispB n] (.tup [inA 0,boA false]):=pwalk (an:=[.no,.av (.dt (.row (primL.map rrow))),.no,.no,.no,yF,.no,.no,.no,.no,yF,.no,.no,.no,.no,yF,.no,.no,.no,.no,yF,.no,.no,.no,.no,yF,.no,.no,.no,.no,yF,.no,.no,.no,.no,yF,.no,.no,.no,.no,yF,.no,.no,.no,.no,yF,.no,.no,.no,.no,yF,.no,.no,.no,.no,yF,.no,.no,.no,.no,yF,.no,.no,.no,.no,yF,.no,.no,.no,.no,yF,.no,.no,.no,.no,yF,.no,.no,.no,.no,yF,.no,.no,.no,.no,yF,.no,.no,.no,.no,yF,.no,.no,.no,.no,yF,.no,.no,.no,.no,yF,.no,.no,.no,.no,yF,.no,.no,.no,.no,yF,.no,.no,.no,.no,yF,.no,.no,.no,.no,yF,.no,.no,.no,.no,yF,.no]) (ls:=[]) (ps:=[Puk 33 [] (.dt (.row (List.map rrow primL))),Bn .eql 9 (.tmp 20) (.tmp 22) (str ([105,102],3).fst) (str n) bF,Bn .eql 9 (.tmp 20) (.tmp 22) (str ([101,113,117,97,108],2).fst) (str n) bF,Bn .eql 9 (.tmp 20) (.tmp 22) (str ([99,111,110,115],2).fst) (str n) bF,Bn .eql 9 (.tmp 20) (.tmp 22) (str ([99,97,114],1).fst) (str n) bF,Bn .eql 9 (.tmp 20) (.tmp 22) (str ([99,100,114],1).fst) (str n) bF,Bn .eql 9 (.tmp 20) (.tmp 22) (str ([99,111,110,115,112],1).fst) (str n) bF,Bn .eql 9 (.tmp 20) (.tmp 22) (str ([115,121,109,98,111,108,112],1).fst) (str n) bF,Bn .eql 9 (.tmp 20) (.tmp 22) (str ([115,116,114,105,110,103,112],1).fst) (str n) bF,Bn .eql 9 (.tmp 20) (.tmp 22) (str ([114,97,116,105,111,110,97,108,112],1).fst) (str n) bF,Bn .eql 9 (.tmp 20) (.tmp 22) (str ([105,110,116,101,103,101,114,112],1).fst) (str n) bF,Bn .eql 9 (.tmp 20) (.tmp 22) (str ([98,105,110,97,114,121,45,43],2).fst) (str n) bF,Bn .eql 9 (.tmp 20) (.tmp 22) (str ([98,105,110,97,114,121,45,42],2).fst) (str n) bF,Bn .eql 9 (.tmp 20) (.tmp 22) (str ([117,110,97,114,121,45,45],1).fst) (str n) bF,Bn .eql 9 (.tmp 20) (.tmp 22) (str ([117,110,97,114,121,45,47],1).fst) (str n) bF,Bn .eql 9 (.tmp 20) (.tmp 22) (str ([60],2).fst) (str n) bF,Bn .eql 9 (.tmp 20) (.tmp 22) (str ([110,117,109,101,114,97,116,111,114],1).fst) (str n) bF,Bn .eql 9 (.tmp 20) (.tmp 22) (str ([100,101,110,111,109,105,110,97,116,111,114],1).fst) (str n) bF,Bn .eql 9 (.tmp 20) (.tmp 22) (str ([102,108,111,111,114],1).fst) (str n) bF,Bn .eql 9 (.tmp 20) (.tmp 22) (str ([115,121,109,98,111,108,45,110,97,109,101],1).fst) (str n) bF,Bn .eql 9 (.tmp 20) (.tmp 22) (str ([115,121,109,98,111,108,45,112,97,99,107,97,103,101,45,110,97,109,101],1).fst) (str n) bF,Bn .eql 9 (.tmp 20) (.tmp 22) (str ([105,110,116,101,114,110],2).fst) (str n) bF,Bn .eql 9 (.tmp 20) (.tmp 22) (str ([115,116,114,105,110,103,45,97,112,112,101,110,100],2).fst) (str n) bF,Bn .eql 9 (.tmp 20) (.tmp 22) (str ([115,116,114,105,110,103,45,108,101,110,103,116,104],1).fst) (str n) bF,Bn .eql 9 (.tmp 20) (.tmp 22) (str ([115,116,114,105,110,103,45,98,121,116,101],2).fst) (str n) bF,Bn .eql 9 (.tmp 20) (.tmp 22) (str ([98,121,116,101,45,115,116,114,105,110,103],1).fst) (str n) bF]) Tryz.func10 (by kernel_rfl) (by kernel_rfl) ⟨p_rows,bin_seq (decide_eq_false (Ne.symm (hn ([105,102],3) (by decide)))),bin_seq (decide_eq_false (Ne.symm (hn ([101,113,117,97,108],2) (by decide)))),bin_seq (decide_eq_false (Ne.symm (hn ([99,111,110,115],2) (by decide)))),bin_seq (decide_eq_false (Ne.symm (hn ([99,97,114],1) (by decide)))),bin_seq (decide_eq_false (Ne.symm (hn ([99,100,114],1) (by decide)))),bin_seq (decide_eq_false (Ne.symm (hn ([99,111,110,115,112],1) (by decide)))),bin_seq (decide_eq_false (Ne.symm (hn ([115,121,109,98,111,108,112],1) (by decide)))),bin_seq (decide_eq_false (Ne.symm (hn ([115,116,114,105,110,103,112],1) (by decide)))),bin_seq (decide_eq_false (Ne.symm (hn ([114,97,116,105,111,110,97,108,112],1) (by decide)))),bin_seq (decide_eq_false (Ne.symm (hn ([105,110,116,101,103,101,114,112],1) (by decide)))),bin_seq (decide_eq_false (Ne.symm (hn ([98,105,110,97,114,121,45,43],2) (by decide)))),bin_seq (decide_eq_false (Ne.symm (hn ([98,105,110,97,114,121,45,42],2) (by decide)))),bin_seq (decide_eq_false (Ne.symm (hn ([117,110,97,114,121,45,45],1) (by decide)))),bin_seq (decide_eq_false (Ne.symm (hn ([117,110,97,114,121,45,47],1) (by decide)))),bin_seq (decide_eq_false (Ne.symm (hn ([60],2) (by decide)))),bin_seq (decide_eq_false (Ne.symm (hn ([110,117,109,101,114,97,116,111,114],1) (by decide)))),bin_seq (decide_eq_false (Ne.symm (hn ([100,101,110,111,109,105,110,97,116,111,114],1) (by decide)))),bin_seq (decide_eq_false (Ne.symm (hn ([102,108,111,111,114],1) (by decide)))),bin_seq (decide_eq_false (Ne.symm (hn ([115,121,109,98,111,108,45,110,97,109,101],1) (by decide)))),bin_seq (decide_eq_false (Ne.symm (hn ([115,121,109,98,111,108,45,112,97,99,107,97,103,101,45,110,97,109,101],1) (by decide)))),bin_seq (decide_eq_false (Ne.symm (hn ([105,110,116,101,114,110],2) (by decide)))),bin_seq (decide_eq_false (Ne.symm (hn ([115,116,114,105,110,103,45,97,112,112,101,110,100],2) (by decide)))),bin_seq (decide_eq_false (Ne.symm (hn ([115,116,114,105,110,103,45,108,101,110,103,116,104],1) (by decide)))),bin_seq (decide_eq_false (Ne.symm (hn ([115,116,114,105,110,103,45,98,121,116,101],2) (by decide)))),bin_seq (decide_eq_false (Ne.symm (hn ([98,121,116,101,45,115,116,114,105,110,103],1) (by decide)))),trivial⟩
theorem p_funs (f:Rdr.Fnc):Puk 115 [.agg ((encE f).map .dt)] (.dt (.row [encF f])) :=
 pwalk (an:=[.no]) (ls:=[]) (ps:=[]) Tryz.func115 (by kernel_rfl) (by kernel_rfl) trivial
theorem p_funsP (is:List (List Dt)):Puk 115 [.agg ((encP is).map .dt)] (.dt (.row [])) :=
 pwalk (an:=[.no,.no,.no,.no]) (ls:=[]) (ps:=[]) Tryz.func115 (by kernel_rfl) (by kernel_rfl) trivial
abbrev plS (es:List (List Dt)) (n:List UInt8) (i:Int):AS:=⟨stt 36 [(0,.dt (.row es)),(3,.ptr 0 0),(7,inA i)],[some (.cells [stA lispB,stA n])]⟩
abbrev plR (n:List UInt8) (i:Int):AS:=⟨stt 36 [(4,inA i),(5,inA 0),(6,boA true)],[some (.cells [stA lispB,stA n])]⟩
noncomputable abbrev plB:Code:=subC (bodyOf Tryz.f114) [1,0,1,0,0]
theorem plB1 {es:List (List Dt)} {n:List UInt8} {i:Nat} {f:Rdr.Fnc} (h:IxAt es (i:Int) 32 (encE f)) (hi:i < es.length) (hl:es.length≤1000) (hn:(decide (f.nm=n))=false):Tri EX plB (plS es n i) .nxt (plS es n ((i+1:Nat):Int)) :=
 twalk (c:=subC (bodyOf Tryz.f114) [1,0,1,0,0]) (s:=plS es n i) (an:=[.av (inA es.length),yT,.av (.pin ((encE f).map .dt)),.av (.dt (.row [encF f])),.no,.no,.no,yF,.no,.no,.no,.av (inA ((i+1:Nat):Int))]) (ls:=[.run 2]) (ft:=[0,3,7]) (nb:=1) (e:=.nxt) (s':=plS es n ((i+1:Nat):Int)) (ps:=[(vi ↑es.length)=(vi ↑es.length),Bn .lss 3 (.tmp 10) (.tmp 12) (vi ↑i) (vi ↑es.length) bT,IxAt es ↑i 32 (encE f),Puk 115 [(.agg ((encE f).map .dt))] (.dt (.row [encF f])),Bn .eql 28 (.tmp 31) (.tmp 32) (Value.agg #[str lispB,str f.nm]) (Value.agg #[str lispB,str n]) bF,Bn .add 3 (.tmp 14) (.const (vi 1)) (vi ↑i) (vi 1) (vi (↑(i+1)))]) (by kernel_rfl)
  ⟨rfl,bin_ilt (decide_eq_true (by omega)),h,p_funs f,bin_syeq (by rw [hn];rfl),bin_iadd (by omega) (by omega) (by omega),trivial⟩
theorem plB2 {es:List (List Dt)} {n:List UInt8} {i:Nat} {f:Rdr.Fnc} (h:IxAt es (i:Int) 32 (encE f)) (hi:i < es.length) (hn:f.nm=n):Tri EX plB (plS es n i) .ret (plR n i) :=
 twalk (c:=subC (bodyOf Tryz.f114) [1,0,1,0,0]) (s:=plS es n i) (an:=[.av (inA es.length),yT,.av (.pin ((encE f).map .dt)),.av (.dt (.row [encF f])),.no,.no,.no,yT]) (ls:=[.run 2]) (ft:=[4,5,6]) (nb:=1) (e:=.ret) (s':=plR n i) (ps:=[(vi ↑es.length)=(vi ↑es.length),Bn .lss 3 (.tmp 10) (.tmp 12) (vi ↑i) (vi ↑es.length) bT,IxAt es ↑i 32 (encE f),Puk 115 [(.agg ((encE f).map .dt))] (.dt (.row [encF f])),Bn .eql 28 (.tmp 31) (.tmp 32) (Value.agg #[str lispB,str f.nm]) (Value.agg #[str lispB,str n]) bT]) (by kernel_rfl)
  ⟨rfl,bin_ilt (decide_eq_true (by omega)),h,p_funs f,bin_syeq (by rw [decide_eq_true hn];rfl),trivial⟩
theorem pl_loop {ws:List Rdr.Fnc} {r:List (List Dt)} {n:List UInt8} {f:Rdr.Fnc} (hl:(ws.map encE++r).length≤1000):∀ (s:List Rdr.Fnc) (i:Nat),ws.drop i=s→(s.find? fun f=>f.nm == n)=some f→∃ j:Nat,ws[j]?=some f∧Lps EX plB (plS (ws.map encE++r) n i) .ret (plR n j):=by
 intro s
 induction s with
 | nil=>intro i _ h;cases h
 | cons x s ih =>
  intro i hd h
  have hx:ws[i]?=some x:=by rw [← List.head?_drop,hd];rfl
  have hlt:=(List.getElem?_eq_some_iff.1 hx).1
  have hi:i < (ws.map encE++r).length:=by rw [List.length_append,List.length_map];omega
  rw [List.find?_cons] at h
  split at h
  ·rename_i e
   cases h
   exact ⟨i,hx,.stop (plB2 (ix_E hx) hi (by simpa using e)) (fun h=>by cases h)⟩
  ·rename_i e
   obtain ⟨j,k1,k2⟩:=ih (i+1) (by rw [← List.drop_drop,hd];rfl) h
   exact ⟨j,k1,.more (plB1 (ix_E hx) hi hl (decide_eq_false (by simpa using e))) k2⟩
theorem w_Func {es:List (List Dt)} {n:List UInt8} {j:Nat} {f:Rdr.Fnc} (ht:Puk 114 [.dt (.row es),syA lispB n] (.tup [inA j,inA 0,boA true])) (h:IxAt es (j:Int) 32 (encE f)):Puk 85 [.dt (.row es),syA lispB n] (.tup [.agg ((encF f).map .dt),boA true]) :=
 pwalk (an:=[.av (.tup [inA j,inA 0,boA true]),.av (.pin ((encE f).map .dt)),.av (.dt (.row [encF f])),.no]) (ls:=[]) (ps:=[Puk 114 [(.dt (.row es)),(syA lispB n)] (.tup [(inA ↑j),(inA 0),(boA true)]),IxAt es ↑j 32 (encE f),Puk 115 [(.agg ((encE f).map .dt))] (.dt (.row [encF f]))]) Tryz.func85 (by kernel_rfl) (by kernel_rfl) ⟨ht,h,p_funs f,trivial⟩
theorem p_Func {ws:List Rdr.Fnc} {r:List (List Dt)} {n:List UInt8} {f:Rdr.Fnc} (hl:(ws.map encE++r).length≤1000) (hf:(ws.find? fun f=>f.nm == n)=some f):Puk 85 [.dt (.row (ws.map encE++r)),syA lispB n] (.tup [.agg ((encF f).map .dt),boA true]):=by
 obtain ⟨j,hj,h⟩:=pl_loop (r:=r) hl ws 0 rfl hf
 have ht:=h.tri
 refine w_Func (j:=j) ?_ (ix_E hj)
 generalize ws.map encE++r=es at *
 exact pwalk (an:=[]) (ls:=[.inv [0,3,7] 1 (.ret) (plR n j)]) (ps:=[Tri EX (.loop (subC (bodyOf Tryz.f114) [1,0,1,0,0])) (plS es n 0) (.ret) (plR n j)]) Tryz.func114 (by kernel_rfl) (by kernel_rfl) ⟨ht,trivial⟩
theorem w_Ari {es:List (List Dt)} {n:List UInt8} {f:Rdr.Fnc} (h1:Puk 10 [syA lispB n] (.tup [inA 0,boA false])) (h2:Puk 85 [.dt (.row es),syA lispB n] (.tup [.agg ((encF f).map .dt),boA true])):Puk 84 [.dt (.row es),syA lispB n] (.tup [inA f.ps.length,boA true]) :=
 pwalk (an:=[.av (.tup [inA 0,boA false]),.av (.tup [.agg ((encF f).map .dt),boA true]),.av (inA f.ps.length)]) (ls:=[]) (ps:=[Puk 10 [(syA lispB n)] (.tup [(inA 0),(boA false)]),Puk 85 [(.dt (.row es)),(syA lispB n)] (.tup [(.agg ((encF f).map .dt)),(boA true)]),(vi ↑f.ps.length)=(vi (↑(List.map lrow f.ps).length))]) Tryz.func84 (by kernel_rfl) (by kernel_rfl) ⟨h1,h2,lenN _,trivial⟩
theorem w_AriP {es:List (List Dt)} {n:List UInt8} {k:Nat} (h1:Puk 10 [syA lispB n] (.tup [inA k,boA true])):Puk 84 [.dt (.row es),syA lispB n] (.tup [inA k,boA true]) :=
 pwalk (an:=[.av (.tup [inA k,boA true])]) (ls:=[]) (ps:=[Puk 10 [(syA lispB n)] (.tup [(inA ↑k),(boA true)])]) Tryz.func84 (by kernel_rfl) (by kernel_rfl) ⟨h1,trivial⟩
def ariW (ws:List Rdr.Fnc) (n:List UInt8):Option Nat:=match Rdr.prim primL n with
 | some k=>some k
 | none=>(ws.find? fun f=>f.nm == n).map (·.ps.length)
theorem p_AriW {ws:List Rdr.Fnc} {r:List (List Dt)} {n:List UInt8} {k:Nat} (hl:(ws.map encE++r).length≤1000) (h:ariW ws n=some k):Puk 84 [.dt (.row (ws.map encE++r)),syA lispB n] (.tup [inA (k:Int),boA true]):=by
 unfold ariW Rdr.prim at h
 split at h
 ·rename_i k' hp
  cases h
  rw [Option.map_eq_some_iff] at hp
  obtain ⟨x,hx,rfl⟩:=hp
  have e:=List.find?_some hx
  have hm:=List.mem_of_find?_eq_some hx
  obtain ⟨i,hi⟩:=List.mem_iff_getElem?.1 hm
  obtain ⟨s,a⟩:=x
  have e:s=n:=by simpa using e
  subst e
  exact w_AriP (p_rAri hi)
 ·rename_i hp
  rw [Option.map_eq_some_iff] at h
  obtain ⟨f,hf,rfl⟩:=h
  rw [Option.map_eq_none_iff,List.find?_eq_none] at hp
  exact w_Ari (p_rArU fun x hx e=>hp x hx (by simp [e])) (p_Func hl hf)
abbrev mac0:AV:=.agg [stA [],stA [],.nil,boA false,inA 0,stA [],stA [],inA 0,stA [],stA [],stA [],stA [],stA [],.nil,.nil]
theorem SOK.pure {P:Program} {G:World→Prop} {f:FuncId} {args:List AV} {r:AV} (hG:∀ w w',G w→Below w.heap.size w w'→G w') (h:SOK P G f args [] r []) (hr:r.scal=true):PureOK P G f args r :=
 ⟨h.1,fun ok w vs hw ha=>by
  refine (h.2 (fun _=>False) (M0 fun b=>ok b∧b < w.heap.size) w vs (fun w' hb=>hG w w' hw hb.below) ?_ (RL.flatter (fun b hb hl=>⟨hb,hl⟩) ha)).mono ?_
  ·have nobx:∀ b x,lk [] b≠some x:=fun b x h=>by simp [lk] at h
   exact ⟨fun b x h=>absurd h (nobx b x),fun b x _ h=>absurd h (nobx b x),fun b _ x _ _ h=>absurd h (nobx b x),(fun b g h=>by cases h),(fun b v h=>by cases h),fun b hb=>hb.2⟩
  ·rintro e w' ⟨v,M',h1,h2,_,_,h5⟩
   exact ⟨v,h1,h2.below.below,RV.scal _ _ hr h5⟩⟩
abbrev mcX (p n:List UInt8):List (Option Bx):=[some (.cells [stA p,stA n]),some (.cells [stA [],stA [],.nil,boA false,inA 0,stA [],stA [],inA 0,stA [],stA [],stA [],stA [],stA [],.nil,.nil])]
abbrev mcS (es:List (List Dt)) (p n:List UInt8) (i:Int):AS:=⟨stt 35 [(0,.dt (.row es)),(3,.ptr 0 0),(4,.ptr 1 0),(6,inA i)],mcX p n⟩
noncomputable abbrev mcB:Code:=subC (bodyOf Tryz.f134) [1,0,1,0,0]
theorem mcB1 {es:List (List Dt)} {p n:List UInt8} {i:Nat} {f:Rdr.Fnc} (h:IxAt es (i:Int) 32 (encE f)) (hi:i < es.length) (hl:es.length≤1000):Tri EX mcB (mcS es p n i) .nxt (mcS es p n ((i+1:Nat):Int)) :=
 twalk (c:=subC (bodyOf Tryz.f134) [1,0,1,0,0]) (s:=mcS es p n i) (an:=[.av (inA es.length),yT,.av (.pin ((encE f).map .dt)),.no,.av (inA ((i+1:Nat):Int))]) (ls:=[]) (ft:=[0,3,4,6]) (nb:=2) (e:=.nxt) (s':=mcS es p n ((i+1:Nat):Int)) (ps:=[(vi ↑es.length)=(vi ↑es.length),Bn .lss 3 (.tmp 7) (.tmp 9) (vi ↑i) (vi ↑es.length) bT,IxAt es ↑i 32 (encE f),Bn .add 3 (.tmp 11) (.const (vi 1)) (vi ↑i) (vi 1) (vi (↑(i+1)))]) (by kernel_rfl)
  ⟨rfl,bin_ilt (decide_eq_true (by omega)),h,bin_iadd (by omega) (by omega) (by omega),trivial⟩
theorem mcB2 {es:List (List Dt)} {p n:List UInt8} {i:Nat} (hi:i=es.length):Tri EX mcB (mcS es p n i) (.out 0) (mcS es p n i) :=
 twalk (c:=subC (bodyOf Tryz.f134) [1,0,1,0,0]) (s:=mcS es p n i) (an:=[.av (inA es.length),yF]) (ls:=[]) (ft:=[0,3,4,6]) (nb:=2) (e:=.out 0) (s':=mcS es p n i) (ps:=[(vi ↑es.length)=(vi ↑es.length),Bn .lss 3 (.tmp 7) (.tmp 9) (vi ↑i) (vi ↑es.length) bF]) (by kernel_rfl)
  ⟨rfl,bin_ilt (decide_eq_false (by omega)),trivial⟩
theorem mc_loop {ws:List Rdr.Fnc} {p n:List UInt8} (hl:(ws.map encE).length≤1000):∀ (s:List Rdr.Fnc) (i:Nat),ws.drop i=s→i≤ws.length→Lps EX mcB (mcS (ws.map encE) p n i) (.out 0) (mcS (ws.map encE) p n ws.length):=by
 intro s
 induction s with
 | nil =>
  intro i hd hi
  have e1:=congrArg List.length hd
  rw [List.length_drop,List.length_nil] at e1
  obtain rfl:i=ws.length:=by omega
  exact .stop (mcB2 (by rw [List.length_map])) (fun h=>by cases h)
 | cons x s ih =>
  intro i hd hi
  have hx:ws[i]?=some x:=by rw [← List.head?_drop,hd];rfl
  have hlt:=(List.getElem?_eq_some_iff.1 hx).1
  have h:=ix_E (r:=[]) hx
  rw [List.append_nil] at h
  exact .more (mcB1 h (by rw [List.length_map];exact hlt) hl) (ih (i+1) (by rw [← List.drop_drop,hd];rfl) (by omega))
theorem p_Macro {ws:List Rdr.Fnc} {p n:List UInt8} (hl:(ws.map encE).length≤1000):Puk 134 [.dt (.row (ws.map encE)),syA p n] (.tup [mac0,boA false]):=by
 refine SOK.pure (fun w w' h hb=>h.below hb) ?_ rfl
 have ht:=(mc_loop (p:=p) (n:=n) hl ws 0 rfl (Nat.zero_le _)).tri
 generalize ws.map encE=es at *
 generalize ((ws.length:Nat):Int)=k at *
 exact psw (n:=0) (ks:=[]) (an:=[]) (ls:=[.inv [0,3,4,6] 2 (.out 0) (mcS es p n k)]) (ps:=[Tri (EXn 0) (.loop (subC (bodyOf Tryz.f134) [1,0,1,0,0])) (mcS es p n 0) (.out 0) (mcS es p n k)]) Tryz.func134 (by kernel_rfl) (by kernel_rfl) ⟨ht,trivial⟩
abbrev trX (es ex:List (List Dt)) (m:Int):List (Option Bx):=[some (.cells [.own 1 es.length,.dt (.row ex),inA m]),some (.buf 70 32 es)]
theorem p_spend {es ex:List (List Dt)} {m:Int} (h0:1≤m) (h1:m≤500):Suk 133 [.ptr 0 0] (trX es ex m) (boA true) (trX es ex (m - 1)) :=
 psw (n:=2) (ks:=[0,1]) (an:=[.av (inA (m - 1)),yT]) (ls:=[]) (ps:=[Bn .sub 3 (.tmp 6) (.const (vi 1)) (vi m) (vi 1) (vi (m - 1)),Bn .geq 3 (.tmp 13) (.const (vi 0)) (vi (m - 1)) (vi 0) bT]) Tryz.func133 (by kernel_rfl) (by kernel_rfl) ⟨bin_isub rfl (by omega) (by omega),bin_ige (decide_eq_true (by omega)),trivial⟩
theorem w_ariX {es:List (List Dt)} {n:List UInt8} {m:Int} {f:Rdr.Fnc} (h:f.nm=n):Puk 137 [.pin [.dt (.row es),.dt (.row [encF f]),inA m],syA lispB n] (.tup [inA f.ps.length,boA true]) :=
 pwalk (an:=[.no,.no,.no,yT,.no,.av (inA f.ps.length)]) (ls:=[.run 1]) (ps:=[Bn .eql 28 (.tmp 23) (.tmp 24) (Value.agg #[str lispB,str f.nm]) (Value.agg #[str lispB,str n]) bT,(vi ↑f.ps.length)=(vi (↑(List.map lrow f.ps).length))]) Tryz.func137 (by kernel_rfl) (by kernel_rfl) ⟨bin_syeq (by rw [decide_eq_true h];rfl),lenN _,trivial⟩
theorem w_ariY {es:List (List Dt)} {n:List UInt8} {m k:Int} {f:Rdr.Fnc} (h:f.nm≠n) (ha:Puk 84 [.dt (.row es),syA lispB n] (.tup [inA k,boA true])):Puk 137 [.pin [.dt (.row es),.dt (.row [encF f]),inA m],syA lispB n] (.tup [inA k,boA true]) :=
 pwalk (an:=[.no,.no,.no,yF,.no,.no,.no,.av (.tup [inA k,boA true])]) (ls:=[.run 2]) (ps:=[Bn .eql 28 (.tmp 23) (.tmp 24) (Value.agg #[str lispB,str f.nm]) (Value.agg #[str lispB,str n]) bF,Puk 84 [(.dt (.row es)),(syA lispB n)] (.tup [(inA k),(boA true)])]) Tryz.func137 (by kernel_rfl) (by kernel_rfl) ⟨bin_syeq (by rw [decide_eq_false h];rfl),ha,trivial⟩
theorem p_arity {ws:List Rdr.Fnc} {n:List UInt8} {m:Int} {f:Rdr.Fnc} {k:Nat} (hl:(ws.map encE).length≤1000) (h:Rdr.arity primL ws f.nm f.ps n=some k):Puk 137 [.pin [.dt (.row (ws.map encE)),.dt (.row [encF f]),inA m],syA lispB n] (.tup [inA (k:Int),boA true]):=by
 unfold Rdr.arity at h
 split at h
 ·rename_i e
  cases h
  exact w_ariX e
 ·rename_i e
  have ha:=p_AriW (ws:=ws) (r:=[]) (n:=n) (k:=k) (by rw [List.append_nil];exact hl) h
  rw [List.append_nil] at ha
  exact w_ariY e ha
end Go.Proofs.YthhknjlmjefklaaGreatDoor
namespace Go.Proofs.YthhknjlmjefklaaGreatDoor
open Go.RowKit
open Te
abbrev wB (es:List (List Dt)):Option Bx:=some (.buf 70 32 es)
theorem w_Expand {es os rs:List (List Dt)} {n:List UInt8} {form o:Ob} (h1:Puk 63 [obA form] (.tup [.dt (.row os),boA true])) (n0:os.length≠0) (h0:IxAt os 0 7 (encL (symB n))) (hs:SlcOK os 7 1 (os.length:Int) rs) (hb:Puk 135 [syA lispB n] (boA true)) (he:Puk expF [stA n,.dt (.row rs)] (.tup [obA o,boA true])):Suk 136 [.own 0 es.length,obA form] [wB es] (.tup [obA o,boA true,inA 0]) [wB es] :=
 psw (n:=1) (ks:=[0]) (an:=[.av (.tup [.dt (.row os),boA true]),.av (inA os.length),yF,.av (.pin ((encL (symB n)).map .dt)),.no,.av (.pin ((encL (symB n)).map .dt)),.av (.dt (.row rs)),yT,.av (.tup [obA o,boA true])]) (ls:=[]) (ps:=[Puk 63 [(obA form)] (.tup [(.dt (.row os)),(boA true)]),(vi ↑os.length)=(vi ↑os.length),Bn .eql 3 (.tmp 28) (.const (vi 0)) (vi ↑os.length) (vi 0) bF,IxAt os 0 7 (encL (symB n)),IxAt os 0 7 (encL (symB n)),SlcOK os 7 ((some 1).getD 0) (none.getD ↑os.length) rs,(none:Option Int)=none∨(none:Option Int)=none,Puk 135 [(syA (symB n).sp (symB n).sn)] (boA true),Puk 190 [(stA (symB n).sn),(.dt (.row rs))] (.tup [(obA o),(boA true)])]) Tryz.func136 (by kernel_rfl) (by kernel_rfl) ⟨h1,rfl,bin_ieq (decide_eq_false (by omega)),h0,h0,hs,.inl rfl,hb,he,trivial⟩
theorem p_VarG (p n:List UInt8):Puk 92 [syA p n] (teA ⟨1,p,n,zOb,[]⟩):=pwalk (an:=[]) (ls:=[]) (ps:=[]) Tryz.func92 (by kernel_rfl) (by kernel_rfl) trivial
theorem p_Assigned0 (p n:List UInt8):Puk 130 [.dt (.row []),syA p n] (.tup [teA zTe,boA false]):=pwalk (an:=[.no,.no]) (ls:=[.run 1]) (ps:=[]) Tryz.func130 (by kernel_rfl) (by kernel_rfl) trivial
abbrev trF:FuncId:=103
theorem w_tr1 {es ex:List (List Dt)} {m:Int} {o:Ob} {t:Te} (hk:o.kind=1) (hc:Puk 13 [obA o] (teA t)):Suk trF [.ptr 0 0,obA o,.dt (.row [])] (trX es ex m) (.tup [teA t,inA 0]) (trX es ex m) :=
 psw (n:=2) (ks:=[0,1]) (an:=[yT,.av (teA t)]) (ls:=[]) (ps:=[Bn .eql 3 (.tmp 29) (.const (vi 1)) (vi o.kind) (vi 1) bT,Puk 13 [(obA o)] (teA t)]) Tryz.func103 (by kernel_rfl) (by kernel_rfl) ⟨bin_ieq (yesD hk),hc,trivial⟩
theorem w_tr2 {es ex:List (List Dt)} {m:Int} {o:Ob} {t:Te} (hk:o.kind=2) (hv:Puk 129 [syA o.sp o.sn] (boA false)) (hc:Puk 13 [obA o] (teA t)):Suk trF [.ptr 0 0,obA o,.dt (.row [])] (trX es ex m) (.tup [teA t,inA 0]) (trX es ex m) :=
 psw (n:=2) (ks:=[0,1]) (an:=[yF,yF,yT,yF,.av (teA t)]) (ls:=[]) (ps:=[Bn .eql 3 (.tmp 29) (.const (vi 1)) (vi o.kind) (vi 1) bF,Bn .eql 3 (.tmp 29) (.const (vi 3)) (vi o.kind) (vi 3) bF,Bn .eql 3 (.tmp 29) (.const (vi 2)) (vi o.kind) (vi 2) bT,Puk 129 [(syA o.sp o.sn)] (boA false),Puk 13 [(obA o)] (teA t)]) Tryz.func103 (by kernel_rfl) (by kernel_rfl) ⟨bin_ieq (noD (by omega)),bin_ieq (noD (by omega)),bin_ieq (yesD hk),hv,hc,trivial⟩
theorem w_tr3 {es ex:List (List Dt)} {m:Int} {o:Ob} {t:Te} (hk:o.kind=2) (hv:Puk 129 [syA o.sp o.sn] (boA true)) (ha:Puk 130 [.dt (.row []),syA o.sp o.sn] (.tup [teA zTe,boA false])) (hc:Puk 92 [syA o.sp o.sn] (teA t)):Suk trF [.ptr 0 0,obA o,.dt (.row [])] (trX es ex m) (.tup [teA t,inA 0]) (trX es ex m) :=
 psw (n:=2) (ks:=[0,1]) (an:=[yF,yF,yT,yT,.av (.tup [teA zTe,boA false]),.av (teA t)]) (ls:=[]) (ps:=[Bn .eql 3 (.tmp 29) (.const (vi 1)) (vi o.kind) (vi 1) bF,Bn .eql 3 (.tmp 29) (.const (vi 3)) (vi o.kind) (vi 3) bF,Bn .eql 3 (.tmp 29) (.const (vi 2)) (vi o.kind) (vi 2) bT,Puk 129 [(syA o.sp o.sn)] (boA true),Puk 130 [(.dt (.row [])),(syA o.sp o.sn)] (.tup [(.agg [(inA 0),(stA zTe.np),(stA zTe.nn),(inA 0),(stA zTe.val.num),(stA zTe.val.den),(stA zTe.val.sp),(stA zTe.val.sn),(stA zTe.val.text),(.dt (.row (List.map Ob.enc zTe.val.pair))),(.dt (.row (List.map Te.enc zTe.args)))]),(boA false)]),Puk 92 [(syA o.sp o.sn)] (teA t)]) Tryz.func103 (by kernel_rfl) (by kernel_rfl) ⟨bin_ieq (noD (by omega)),bin_ieq (noD (by omega)),bin_ieq (yesD hk),hv,ha,hc,trivial⟩
theorem w_tr4 {es ex os rs:List (List Dt)} {m m':Int} {n:List UInt8} {form o:Ob} {t:Te} (hk:form.kind=4) (h1:Puk 63 [obA form] (.tup [.dt (.row os),boA true])) (n0:os.length≠0) (h0:IxAt os 0 7 (encL (symB n))) (hs:SlcOK os 7 1 (os.length:Int) rs)
  (hq:n ∉ Rdr.special) (hm:Puk 134 [.dt (.row es),syA lispB n] (.tup [mac0,boA false])) (hb:Puk 135 [syA lispB n] (boA true)) (hsp:Suk 133 [.ptr 0 0] (trX es ex m) (boA true) (trX es ex (m - 1))) (he:Suk 136 [.own 0 es.length,obA form] [wB es] (.tup [obA o,boA true,inA 0]) [wB es]) (ht:Suk trF [.ptr 0 0,obA o,.dt (.row [])] (trX es ex (m - 1)) (.tup [teA t,inA 0]) (trX es ex m')):Suk trF [.ptr 0 0,obA form,.dt (.row [])] (trX es ex m) (.tup [teA t,inA 0]) (trX es ex m'):=by
 have ne:∀ x∈Rdr.special,(decide (lispB=lispB) && decide (n=x))=false:=fun x hx=>by
  rw [decide_eq_false (fun e:n=x=>hq (e.symm ▸ hx)),Bool.and_false]
 exact psw (n:=2) (ks:=[0,1]) (an:=[yF,yF,yF,.av (.tup [.dt (.row os),boA true]),.av (inA os.length),yF,.av (.pin ((encL (symB n)).map .dt)),.no,.av (.pin ((encL (symB n)).map .dt)),.av (.dt (.row rs)),.av (syA lispB [113,117,111,116,101]),yF,.av (syA lispB [108,101,116]),yF,.av (syA lispB [108,101,116,42]),yF,.av (.tup [mac0,boA false]),yT,.no]) (ls:=[.scl 33 1 [0,1] (boA true) [some (.cells [.own 1 es.length,.dt (.row ex),inA (m - 1)]),some (.buf 70 32 es)],.scl 35 5 [1] (.tup [obA o,boA true,inA 0]) [some (.buf 70 32 es)],.scl 38 3 [0,1] (.tup [teA t,inA 0]) [some (.cells [.own 1 es.length,.dt (.row ex),inA m']),some (.buf 70 32 es)]]) (ps:=[Bn .eql 3 (.tmp 29) (.const (vi 1)) (vi form.kind) (vi 1) bF,Bn .eql 3 (.tmp 29) (.const (vi 3)) (vi form.kind) (vi 3) bF,Bn .eql 3 (.tmp 29) (.const (vi 2)) (vi form.kind) (vi 2) bF,Puk 63 [(obA form)] (.tup [(.dt (.row os)),(boA true)]),(vi ↑os.length)=(vi ↑os.length),Bn .eql 3 (.tmp 64) (.const (vi 0)) (vi ↑os.length) (vi 0) bF,IxAt os 0 7 (encL (symB n)),IxAt os 0 7 (encL (symB n)),SlcOK os 7 ((some 1).getD 0) (none.getD ↑os.length) rs,(none:Option Int)=none∨(none:Option Int)=none,Puk 29 [(stA [113,117,111,116,101])] (syA lispB [113,117,111,116,101]),Bn .eql 28 (.tmp 81) (.tmp 83) (Value.agg #[str (symB n).sp,str (symB n).sn]) (Value.agg #[str lispB,str [113,117,111,116,101]]) bF,Puk 29 [(stA [108,101,116])] (syA lispB [108,101,116]),Bn .eql 28 (.tmp 81) (.tmp 94) (Value.agg #[str (symB n).sp,str (symB n).sn]) (Value.agg #[str lispB,str [108,101,116]]) bF,Puk 29 [(stA [108,101,116,42])] (syA lispB [108,101,116,42]),Bn .eql 28 (.tmp 81) (.tmp 103) (Value.agg #[str (symB n).sp,str (symB n).sn]) (Value.agg #[str lispB,str [108,101,116,42]]) bF,Puk 134 [(.dt (.row es)),(syA (symB n).sp (symB n).sn)] (.tup [(.agg [(stA []),(stA []),.nil,(boA false),(inA 0),(stA []),(stA []),(inA 0),(stA []),(stA []),(stA []),(stA []),(stA []),.nil,.nil]),(boA false)]),(es.length)=(es.length),Puk 135 [(syA (symB n).sp (symB n).sn)] (boA true),Suk 133 [AV.ptr 0 0] [some (Bx.cells [AV.own 1 es.length,AV.dt (Dt.row ex),AV.dt (Dt.val (vi m))]),some (Bx.buf 70 32 es)] (boA true) [some (Bx.cells [AV.own 1 es.length,AV.dt (Dt.row ex),inA (m - 1)]),some (Bx.buf 70 32 es)],Suk 136 [AV.own 0 es.length,AV.agg [AV.dt (Dt.val (vi form.kind)),AV.dt (Dt.val (str form.num)),AV.dt (Dt.val (str form.den)),AV.dt (Dt.val (str form.sp)),AV.dt (Dt.val (str form.sn)),AV.dt (Dt.val (str form.text)),AV.dt (Dt.row (List.map Ob.enc form.pair))]] [some (Bx.buf 70 32 es)] (AV.tup [obA o,boA true,inA 0]) [some (Bx.buf 70 32 es)],Suk 103 [AV.ptr 0 0,AV.agg [AV.dt (Dt.val (vi o.kind)),AV.dt (Dt.val (str o.num)),AV.dt (Dt.val (str o.den)),AV.dt (Dt.val (str o.sp)),AV.dt (Dt.val (str o.sn)),AV.dt (Dt.val (str o.text)),AV.dt (Dt.row (List.map Ob.enc o.pair))],AV.dt (Dt.row [])] [some (Bx.cells [AV.own 1 es.length,AV.dt (Dt.row ex),AV.dt (Dt.val (vi (m - 1)))]),some (Bx.buf 70 32 es)] (AV.tup [teA t,inA 0]) [some (Bx.cells [AV.own 1 es.length,AV.dt (Dt.row ex),inA m']),some (Bx.buf 70 32 es)]]) Tryz.func103 (by kernel_rfl) (by kernel_rfl)
  ⟨bin_ieq (noD (by omega)),bin_ieq (noD (by omega)),bin_ieq (noD (by omega)),h1,rfl,bin_ieq (decide_eq_false (by omega)),h0,h0,hs,.inl rfl,p_lisp _,bin_syeq (ne _ (by decide)),p_lisp _,bin_syeq (ne _ (by decide)),p_lisp _,bin_syeq (ne _ (by decide)),hm,rfl,hb,hsp,he,ht,trivial⟩
end Go.Proofs.YthhknjlmjefklaaGreatDoor
namespace Go.Proofs.YthhknjlmjefklaaGreatDoor
open Go.RowKit
open Te
abbrev trC (form:Ob) (n:List UInt8):List (Option Bx):=[some (.cells ((encL form).map .dt)),some (.cells [inA 0,stA [],stA [],inA 0,stA [],stA [],stA [],stA [],stA [],.nil,.nil]),some (.cells [stA lispB,stA n]),some (.cells [stA [],stA [],.nil,boA false,inA 0,stA [],stA [],inA 0,stA [],stA [],stA [],stA [],stA [],.nil,.nil])]
abbrev trS (es ex:List (List Dt)) (m:Int) (form:Ob) (n:List UInt8) (os ts:List (List Dt)) (i:Int):AS:=⟨stt 214 [(0,.ptr 0 0),(2,.dt (.row [])),(4,.ptr 2 0),(6,.ptr 3 0),(12,.ptr 4 0),(13,.dt (.row os)),(23,.own 6 ts.length),(24,inA i)],trX es ex m++(trC form n++[some (.buf 41 11 ts)])⟩
abbrev tr0 (es ex:List (List Dt)) (m:Int) (form:Ob) (n:List UInt8) (os:List (List Dt)):AS:=⟨stt 214 [(0,.ptr 0 0),(2,.dt (.row [])),(4,.ptr 2 0),(6,.ptr 3 0),(12,.ptr 4 0),(13,.dt (.row os)),(23,.nil),(24,inA 0)],trX es ex m++trC form n⟩
noncomputable abbrev trB:Code:=subC (bodyOf Tryz.f103) [1,1,1,1,1,1,1,1,0,1,0,0]
theorem trB1 {es ex os ts:List (List Dt)} {m m':Int} {form o:Ob} {n:List UInt8} {i:Nat} {t:Te} (hi:i < os.length) (hl:os.length≤1000) (he:ts.length≤1000) (hx:IxAt os (i:Int) 7 (encL o)) (ht:Suk trF [.ptr 0 0,obA o,.dt (.row [])] (trX es ex m) (.tup [teA t,inA 0]) (trX es ex m')):Tri (EXn 2) trB (trS es ex m form n os ts i) .nxt (trS es ex m' form n os (ts++[encT t]) ((i+1:Nat):Int)) :=
 tw (E:=EXn 2) (c:=subC (bodyOf Tryz.f103) [1,1,1,1,1,1,1,1,0,1,0,0]) (s:=trS es ex m form n os ts i) (an:=[.av (inA os.length),yT,.av (.pin ((encL o).map .dt)),.no,.av (.un),.av (inA ((i+1:Nat):Int))]) (ls:=[.scl 43 6 [0,1] (.tup [teA t,inA 0]) [some (.cells [.own 1 es.length,.dt (.row ex),inA m']),some (.buf 70 32 es)]]) (ft:=[0,2,4,6,12,13,23,24]) (nb:=7) (e:=.nxt) (s':=trS es ex m' form n os (ts++[encT t]) ((i+1:Nat):Int)) (ps:=[(vi ↑os.length)=(vi ↑os.length),Bn .lss 3 (.tmp 173) (.tmp 175) (vi ↑i) (vi ↑os.length) bT,IxAt os ↑i 7 (encL o),Suk 103 [AV.ptr 0 0,AV.agg [AV.dt (Dt.val (vi o.kind)),AV.dt (Dt.val (str o.num)),AV.dt (Dt.val (str o.den)),AV.dt (Dt.val (str o.sp)),AV.dt (Dt.val (str o.sn)),AV.dt (Dt.val (str o.text)),AV.dt (Dt.row (List.map Ob.enc o.pair))],AV.dt (Dt.row [])] [some (Bx.cells [AV.own 1 es.length,AV.dt (Dt.row ex),AV.dt (Dt.val (vi m))]),some (Bx.buf 70 32 es)] (AV.tup [teA t,inA 0]) [some (Bx.cells [AV.own 1 es.length,AV.dt (Dt.row ex),inA m']),some (Bx.buf 70 32 es)],(ts.length)=(ts.length),FitB 176 ((ts++[encT t]).length),SrcOK 11 [encT t],Bn .add 3 (.tmp 177) (.const (vi 1)) (vi ↑i) (vi 1) (vi (↑(i+1)))]) (by kernel_rfl)
  ⟨rfl,bin_ilt (decide_eq_true (by omega)),hx,ht,rfl,fit_of (by omega) (by simp;omega),src_te1 t,bin_iadd (by omega) (by omega) (by omega),trivial⟩
theorem trB2 {es ex os ts:List (List Dt)} {m:Int} {form:Ob} {n:List UInt8} {i:Nat} (hi:i=os.length):Tri (EXn 2) trB (trS es ex m form n os ts i) (.out 2) (trS es ex m form n os ts i) :=
 tw (E:=EXn 2) (c:=subC (bodyOf Tryz.f103) [1,1,1,1,1,1,1,1,0,1,0,0]) (s:=trS es ex m form n os ts i) (an:=[.av (inA os.length),yF]) (ls:=[]) (ft:=[0,2,4,6,12,13,23,24]) (nb:=7) (e:=.out 2) (s':=trS es ex m form n os ts i) (ps:=[(vi ↑os.length)=(vi ↑os.length),Bn .lss 3 (.tmp 173) (.tmp 175) (vi ↑i) (vi ↑os.length) bF]) (by kernel_rfl)
  ⟨rfl,bin_ilt (decide_eq_false (by omega)),trivial⟩
theorem w_tr5 {es ex os rs ts:List (List Dt)} {m m' k:Int} {n:List UInt8} {form:Ob} {t:Te} (hk:form.kind=4) (h1:Puk 63 [obA form] (.tup [.dt (.row os),boA true])) (n0:os.length≠0) (h0:IxAt os 0 7 (encL (symB n))) (hs:SlcOK os 7 1 (os.length:Int) rs)
  (hq:n ∉ Rdr.special) (hm:Puk 134 [.dt (.row es),syA lispB n] (.tup [mac0,boA false])) (hb:Puk 135 [syA lispB n] (boA false)) (hlp:Tri (EXn 2) (.loop trB) (tr0 es ex m form n rs) (.out 2) (trS es ex m' form n rs ts k)) (ha:Puk 137 [.pin [.dt (.row es),.dt (.row ex),inA m'],syA lispB n] (.tup [inA ts.length,boA true])) (hp:Puk 23 [syA lispB n,.dt (.row ts)] (teA t)):Suk trF [.ptr 0 0,obA form,.dt (.row [])] (trX es ex m) (.tup [teA t,inA 0]) (trX es ex m'):=by
 have ne:∀ x∈Rdr.special,(decide (lispB=lispB) && decide (n=x))=false:=fun x hx=>by
  rw [decide_eq_false (fun e:n=x=>hq (e.symm ▸ hx)),Bool.and_false]
 exact psw (n:=2) (ks:=[0,1]) (an:=[yF,yF,yF,.av (.tup [.dt (.row os),boA true]),.av (inA os.length),yF,.av (.pin ((encL (symB n)).map .dt)),.no,.av (.pin ((encL (symB n)).map .dt)),.av (.dt (.row rs)),.av (syA lispB [113,117,111,116,101]),yF,.av (syA lispB [108,101,116]),yF,.av (syA lispB [108,101,116,42]),yF,.av (.tup [mac0,boA false]),yF,.av (.tup [inA ts.length,boA true]),.av (inA ts.length),yF,.av (teA t)]) (ls:=[.inv [0,2,4,6,12,13,23,24] 6 (.out 2) (trS es ex m' form n rs ts k)]) (ps:=[Bn .eql 3 (.tmp 29) (.const (vi 1)) (vi form.kind) (vi 1) bF,Bn .eql 3 (.tmp 29) (.const (vi 3)) (vi form.kind) (vi 3) bF,Bn .eql 3 (.tmp 29) (.const (vi 2)) (vi form.kind) (vi 2) bF,Puk 63 [(obA form)] (.tup [(.dt (.row os)),(boA true)]),(vi ↑os.length)=(vi ↑os.length),Bn .eql 3 (.tmp 64) (.const (vi 0)) (vi ↑os.length) (vi 0) bF,IxAt os 0 7 (encL (symB n)),IxAt os 0 7 (encL (symB n)),SlcOK os 7 ((some 1).getD 0) (none.getD ↑os.length) rs,(none:Option Int)=none∨(none:Option Int)=none,Puk 29 [(stA [113,117,111,116,101])] (syA lispB [113,117,111,116,101]),Bn .eql 28 (.tmp 81) (.tmp 83) (Value.agg #[str (symB n).sp,str (symB n).sn]) (Value.agg #[str lispB,str [113,117,111,116,101]]) bF,Puk 29 [(stA [108,101,116])] (syA lispB [108,101,116]),Bn .eql 28 (.tmp 81) (.tmp 94) (Value.agg #[str (symB n).sp,str (symB n).sn]) (Value.agg #[str lispB,str [108,101,116]]) bF,Puk 29 [(stA [108,101,116,42])] (syA lispB [108,101,116,42]),Bn .eql 28 (.tmp 81) (.tmp 103) (Value.agg #[str (symB n).sp,str (symB n).sn]) (Value.agg #[str lispB,str [108,101,116,42]]) bF,Puk 134 [(.dt (.row es)),(syA (symB n).sp (symB n).sn)] (.tup [(.agg [(stA []),(stA []),.nil,(boA false),(inA 0),(stA []),(stA []),(inA 0),(stA []),(stA []),(stA []),(stA []),(stA []),.nil,.nil]),(boA false)]),(es.length)=(es.length),Puk 135 [(syA (symB n).sp (symB n).sn)] (boA false),Tri (EXn 2) (.loop (subC (bodyOf Tryz.f103) [1,1,1,1,1,1,1,1,0,1,0,0])) (tr0 es ex m form n rs) (.out 2) (trS es ex m' form n rs ts k),Puk 137 [(.pin [(.dt (.row es)),(.dt (.row ex)),(inA m')]),(syA lispB n)] (.tup [(inA ↑ts.length),(boA true)]),(es.length)=(es.length),(vi ↑ts.length)=(vi ↑ts.length),Bn .neq 3 (.tmp 206) (.tmp 208) (vi ↑ts.length) (vi ↑ts.length) bF,Puk 23 [(syA lispB n),(.dt (.row ts))] (teA t),(ts.length)=(ts.length)]) Tryz.func103 (by kernel_rfl) (by kernel_rfl)
  ⟨bin_ieq (noD (by omega)),bin_ieq (noD (by omega)),bin_ieq (noD (by omega)),h1,rfl,bin_ieq (decide_eq_false (by omega)),h0,h0,hs,.inl rfl,p_lisp _,bin_syeq (ne _ (by decide)),p_lisp _,bin_syeq (ne _ (by decide)),p_lisp _,bin_syeq (ne _ (by decide)),hm,rfl,hb,hlp,ha,rfl,rfl,bin_ine (decide_eq_true rfl),hp,rfl,trivial⟩
end Go.Proofs.YthhknjlmjefklaaGreatDoor
namespace Go.Proofs.YthhknjlmjefklaaGreatDoor
open Go.RowKit
open Te
theorem p_biT {n:List UInt8} {l:List Tr} {o:Tr} (h:Rdr.expand n l=some o):Puk 135 [syA lispB n] (boA true):=by
 unfold Rdr.expand at h
 split at h
 ·rename_i e;subst e;exact w_bi1
 split at h
 ·rename_i e;subst e;exact w_bi13
 split at h
 ·rename_i e;subst e;exact w_bi3
 split at h
 ·rename_i e;subst e;exact w_bi4
 split at h
 ·rename_i e;subst e;exact w_bi5
 split at h
 ·rename_i e;subst e;exact w_bi6
 ·cases h
theorem int_okT {n:Int} (h:n.natAbs < 10 ^ 4):(Tr.num (n:Rat)).Ok 10000:=Tr.Ok.mono (k:=4) (by decide) (rb_int h)
theorem tr_main {ws:List Rdr.Fnc} {f:Rdr.Fnc} (hw:(ws.map encE).length≤1000):∀ (fuel:Nat),
  (∀ (x:Tr) (m m':Int) (t:Te),Rdr.trn (Rdr.arity primL ws f.nm f.ps) fuel m x=some (t,m')→0≤m→m≤500→(0≤m'∧m'≤m)∧t.Bd∧Suk trF [.ptr 0 0,trA x,.dt (.row [])] (trX (ws.map encE) [encF f] m) (.tup [teA t,inA 0]) (trX (ws.map encE) [encF f] m')) ∧
  (∀ (l:List Tr) (m m':Int) (ts:List Te),Rdr.trnL (Rdr.arity primL ws f.nm f.ps) fuel m l=some (ts,m')→0≤m→m≤500→(0≤m'∧m'≤m)∧ts.length=l.length∧(∀ t∈ts,t.Bd)∧∀ (form:Ob) (n:List UInt8) (os:List Tr) (i:Nat) (us:List Te),os.length≤500→us.length=i→i≤os.length→os.drop i=l →
   Lps (EXn 2) trB (trS (ws.map encE) [encF f] m form n (encOs os) (encTs us) i) (.out 2) (trS (ws.map encE) [encF f] m' form n (encOs os) (encTs (us++ts)) os.length)):=by
 intro fuel
 induction fuel with
 | zero=>exact ⟨fun x m m' t h=>by simp [Rdr.trn] at h,fun l m m' ts h=>by simp [Rdr.trnL] at h⟩
 | succ fuel ih =>
  obtain ⟨ih1,ih2⟩:=ih
  refine ⟨?_,?_⟩
  ·intro x m m' t h h0 h5
   cases x with
   | num q =>
    rw [Rdr.trn] at h
    split at h
    ·rename_i hq
     cases h
     refine ⟨⟨h0,Int.le_refl _⟩,?_,w_tr1 rfl (p_rConst _)⟩
     have hok:(Tr.num q).Ok 10000:=by
      rcases hq with rfl | rfl | rfl
      ·exact int_okT (n:=0) (by decide)
      ·exact int_okT (n:=1) (by decide)
      ·exact int_okT (n:=-1) (by decide)
     exact .mk _ (hok.wf (by decide)) (hok.sm (by decide)) (Nat.zero_le _) (Nat.zero_le _) (Nat.zero_le _) (fun x hx=>by cases hx)
    ·cases h
   | txt s=>simp [Rdr.trn] at h
   | sym p n =>
    rw [Rdr.trn] at h
    split at h
    ·rename_i hl
     have hv:=p_Variable p n (by omega) (by omega)
     split at h
     ·rename_i e
      cases h
      rw [e] at hv
      exact ⟨⟨h0,Int.le_refl _⟩,.mk _ zOb_wf (.mk _ (Nat.zero_le _) (Nat.zero_le _) (fun x hx=>by cases hx)) (by show p.length≤_;omega) (by show n.length≤_;omega) (Nat.zero_le _) (fun x hx=>by cases hx),w_tr3 rfl hv (p_Assigned0 _ _) (p_VarG _ _)⟩
     ·rename_i e
      cases h
      rw [Bool.eq_false_iff.2 e] at hv
      have hok:(Tr.sym p n).Ok 10000:=⟨by omega,by omega⟩
      exact ⟨⟨h0,Int.le_refl _⟩,.mk _ (hok.wf (by decide)) (hok.sm (by decide)) (Nat.zero_le _) (Nat.zero_le _) (Nat.zero_le _) (fun x hx=>by cases hx),w_tr2 rfl hv (p_rConst _)⟩
    ·cases h
   | cons a d =>
    rw [Rdr.trn] at h
    split at h
    case h_2=>cases h
    rename_i p n l hi
    have hx:=items_list hi
    split at h
    case isFalse=>cases h
    rename_i hc
    obtain ⟨rfl,hn,hs,hl⟩:=hc
    rw [hx]
    have hk:(Tr.list (Tr.sym lispB n::l)).ob.kind=4:=rfl
    have hlen:(encOs (Tr.sym lispB n::l)).length≠0:=by unfold encOs;rw [List.length_map];simp
    have hit:=p_rItems (l:=Tr.sym lispB n::l) (by rw [List.length_cons];omega)
    split at h
    ·rename_i hm
     split at h
     case h_2=>cases h
     rename_i o ho
     split at h
     case isFalse=>cases h
     rename_i h1
     obtain ⟨⟨g1,g2⟩,g3,g4⟩:=ih1 o (m - 1) m' t h (by omega) (by omega)
     have hb:=p_biT ho
     exact ⟨⟨g1,by omega⟩,g3,w_tr4 hk hit hlen (ix_os0 _ _) (slc_os _ _) hs (p_Macro hw) hb (p_spend h1 h5) (w_Expand hit hlen (ix_os0 _ _) (slc_os _ _) hb (p_expand ho (by omega))) g4⟩
    ·rename_i hm
     split at h
     case h_2=>cases h
     rename_i ts m1 hts
     split at h
     case isFalse=>cases h
     rename_i har
     cases h
     obtain ⟨⟨g1,g2⟩,g3,g4,g5⟩:=ih2 l m m' ts hts h0 h5
     have hlp:=g5 (Tr.list (Tr.sym lispB n::l)).ob n l 0 [] hl rfl (Nat.zero_le _) rfl
     have ht:Tri (EXn 2) (.loop trB) (tr0 (ws.map encE) [encF f] m (Tr.list (Tr.sym lispB n::l)).ob n (encOs l)) (.out 2) (trS (ws.map encE) [encF f] m' (Tr.list (Tr.sym lispB n::l)).ob n (encOs l) (encTs ts) l.length):=Tri.own0 23 41 11 (by show 23 < 214;omega) rfl hlp.tri
     refine ⟨⟨g1,g2⟩,.mk _ zOb_wf (.mk _ (Nat.zero_le _) (Nat.zero_le _) (fun x hx=>by cases hx)) (by show lispB.length≤_;decide) (by show n.length≤_;omega) (by show ts.length≤_;omega) g4,w_tr5 hk hit hlen (ix_os0 _ _) (slc_os _ _) hs (p_Macro hw) (p_biF hm) ht ?_ (p_rApp _ _ _)⟩
     have hay:=p_arity (m:=m') hw har
     unfold encTs
     rw [List.length_map]
     exact hay
  ·intro l m m' ts h h0 h5
   cases l with
   | nil =>
    rw [Rdr.trnL] at h
    cases h
    refine ⟨⟨h0,Int.le_refl _⟩,rfl,(fun t ht=>by cases ht),fun form n os i us ho hu hi hd=>?_⟩
    have e1:=congrArg List.length hd
    rw [List.length_drop,List.length_nil] at e1
    obtain rfl:i=os.length:=by omega
    rw [List.append_nil]
    exact .stop (trB2 (by unfold encOs;rw [List.length_map])) (fun h=>by cases h)
   | cons x r =>
    rw [Rdr.trnL] at h
    split at h
    case h_2=>cases h
    rename_i t m1 ht
    split at h
    case h_2=>cases h
    rename_i ts' m2 hts
    cases h
    obtain ⟨⟨g1,g2⟩,g3,g4⟩:=ih1 x m m1 t ht h0 h5
    obtain ⟨⟨k1,k2⟩,k3,k4,k5⟩:=ih2 r m1 m' ts' hts g1 (by omega)
    refine ⟨⟨k1,by omega⟩,by rw [List.length_cons,List.length_cons,k3],fun y hy=>?_,fun form n os i us ho hu hi hd=>?_⟩
    ·rcases List.mem_cons.1 hy with rfl | hy
     ·exact g3
     ·exact k4 y hy
    ·have hx:os[i]?=some x:=by rw [← List.head?_drop,hd];rfl
     have hlt:=(List.getElem?_eq_some_iff.1 hx).1
     have hix:IxAt (encOs os) (i:Int) 7 (encL x.ob):=⟨Int.natCast_nonneg _,by rw [Int.toNat_natCast];unfold encOs;rw [List.getElem?_map,hx];rfl,rfl⟩
     have hs:=trB1 (form:=form) (n:=n) (ts:=encTs us) (by unfold encOs;rw [List.length_map];exact hlt) (by unfold encOs;rw [List.length_map];omega) (by rw [List.length_map];omega) hix g4
     have e:encTs us++[encT t]=encTs (us++[t]):=by unfold encTs;rw [List.map_append,row1]
     rw [e] at hs
     have hn:=k5 form n os (i+1) (us++[t]) ho (by simp [hu]) hlt (by rw [← List.drop_drop,hd];rfl)
     rw [List.append_assoc,List.singleton_append] at hn
     exact .more hs hn
end Go.Proofs.YthhknjlmjefklaaGreatDoor
namespace Go.Proofs.YthhknjlmjefklaaGreatDoor
open Go.RowKit
open Te
theorem w_Term12 {es ex:List (List Dt)} {m':Int} {form:Ob} {t:Te} (h:Suk trF [.ptr 0 0,obA form,.dt (.row [])] (trX es ex 500) (.tup [teA t,inA 0]) (trX es ex m')) (hv:Puk 104 [teA t] (boA true)):Suk 65 [.own 0 es.length,.dt (.row ex),obA form] [wB es] (.tup [teA t,inA 0]) [wB es] :=
 psw (n:=1) (ks:=[0]) (an:=[.no,yT]) (ls:=[.scl 2 2 [3,0] (.tup [teA t,inA 0]) [some (.cells [.own 1 es.length,.dt (.row ex),inA m']),some (.buf 70 32 es)]]) (ps:=[Suk 103 [AV.ptr 0 0,AV.agg [AV.dt (Dt.val (vi form.kind)),AV.dt (Dt.val (str form.num)),AV.dt (Dt.val (str form.den)),AV.dt (Dt.val (str form.sp)),AV.dt (Dt.val (str form.sn)),AV.dt (Dt.val (str form.text)),AV.dt (Dt.row (List.map Ob.enc form.pair))],AV.dt (Dt.row [])] [some (Bx.cells [AV.own 1 es.length,AV.dt (Dt.row ex),AV.dt (Dt.val (vi 500))]),some (Bx.buf 70 32 es)] (AV.tup [teA t,inA 0]) [some (Bx.cells [AV.own 1 es.length,AV.dt (Dt.row ex),inA m']),some (Bx.buf 70 32 es)],Puk 104 [(teA t)] (boA true)]) Tryz.func65 (by kernel_rfl) (by kernel_rfl) ⟨h,hv,trivial⟩
theorem p_Term12 {ws:List Rdr.Fnc} {f:Rdr.Fnc} (hw:ws.length≤1000) {x:Tr} {t:Te} (h:Rdr.trm (Rdr.arity primL ws f.nm f.ps) x=some t):Suk 65 [.own 0 (ws.map encE).length,.dt (.row [encF f]),trA x] [wB (ws.map encE)] (.tup [teA t,inA 0]) [wB (ws.map encE)]:=by
 unfold Rdr.trm at h
 split at h
 case h_2=>cases h
 rename_i t' m' ht
 split at h
 case isFalse=>cases h
 rename_i hv
 cases h
 obtain ⟨_,hb,hs⟩:=(tr_main (by rw [List.length_map];exact hw) 100).1 x 500 m' t ht (by decide) (by decide)
 have h8:=p_rValidT hb
 rw [hv] at h8
 exact w_Term12 hs h8
abbrev opS (os:List (List Dt)) (nm:List UInt8) (i:Int):AS:=⟨stt 43 [(0,.dt (.row os)),(1,stA nm),(4,.ptr 0 0),(6,inA i)],[some (.cells [inA 0,stA [],stA [],stA [],stA [],stA [],.nil])]⟩
abbrev opR (b:Ob):AS:=⟨stt 43 [(4,.ptr 0 0),(5,boA true)],[some (.cells ((encL b).map .dt))]⟩
noncomputable abbrev opB:Code:=subC (bodyOf Tryz.f66) [1,0,1,0,0]
theorem opB1 {os:List (List Dt)} {nm p n:List UInt8} {i:Nat} {x b:Ob} (hi:i+1 < os.length) (hl:os.length≤1000) (hx:IxAt os (i:Int) 7 (encL x)) (h:Puk 63 [obA x] (.tup [.dt (.row [encL (Tr.sym p n).ob,encL b]),boA true])) (hn:(decide (p=lispB) && decide (n=nm))=false):Tri EX opB (opS os nm i) .nxt (opS os nm ((i+1:Nat):Int)) :=
 twalk (c:=subC (bodyOf Tryz.f66) [1,0,1,0,0]) (s:=opS os nm i) (an:=[.av (inA ((i+1:Nat):Int)),.av (inA os.length),yT,.av (.pin ((encL x).map .dt)),.av (.tup [.dt (.row [encL (Tr.sym p n).ob,encL b]),boA true]),.no,.no,.no,.av (syA lispB nm),yF,.av (inA ((i+1:Nat):Int))]) (ls:=[]) (ft:=[0,1,4,6]) (nb:=1) (e:=.nxt) (s':=opS os nm ((i+1:Nat):Int)) (ps:=[Bn .add 3 (.tmp 9) (.const (vi 1)) (vi ↑i) (vi 1) (vi (↑(i+1))),(vi ↑os.length)=(vi ↑os.length),Bn .lss 3 (.tmp 10) (.tmp 12) (vi (↑(i+1))) (vi ↑os.length) bT,IxAt os ↑i 7 (encL x),Puk 63 [(obA x)] (.tup [(.dt (.row [encL (Tr.sym p n).ob,encL b])),(boA true)]),Puk 29 [(stA nm)] (syA lispB nm),Bn .eql 28 (.tmp 34) (.tmp 36) (Value.agg #[str (Tr.sym p n).ob.sp,str (Tr.sym p n).ob.sn]) (Value.agg #[str lispB,str nm]) bF,Bn .add 3 (.tmp 14) (.const (vi 1)) (vi ↑i) (vi 1) (vi (↑(i+1)))]) (by kernel_rfl) ⟨bin_iadd (by omega) (by omega) (by omega),rfl,bin_ilt (decide_eq_true (by omega)),hx,h,p_lisp _,bin_syeq hn,bin_iadd (by omega) (by omega) (by omega),trivial⟩
theorem opB2 {os:List (List Dt)} {nm p n:List UInt8} {i:Nat} {x b:Ob} (hi:i+1 < os.length) (hl:os.length≤1000) (hx:IxAt os (i:Int) 7 (encL x)) (h:Puk 63 [obA x] (.tup [.dt (.row [encL (Tr.sym p n).ob,encL b]),boA true])) (hn:(decide (p=lispB) && decide (n=nm))=true):Tri EX opB (opS os nm i) .ret (opR b) :=
 twalk (c:=subC (bodyOf Tryz.f66) [1,0,1,0,0]) (s:=opS os nm i) (an:=[.av (inA ((i+1:Nat):Int)),.av (inA os.length),yT,.av (.pin ((encL x).map .dt)),.av (.tup [.dt (.row [encL (Tr.sym p n).ob,encL b]),boA true]),.no,.no,.no,.av (syA lispB nm),yT]) (ls:=[]) (ft:=[4,5]) (nb:=1) (e:=.ret) (s':=opR b) (ps:=[Bn .add 3 (.tmp 9) (.const (vi 1)) (vi ↑i) (vi 1) (vi (↑(i+1))),(vi ↑os.length)=(vi ↑os.length),Bn .lss 3 (.tmp 10) (.tmp 12) (vi (↑(i+1))) (vi ↑os.length) bT,IxAt os ↑i 7 (encL x),Puk 63 [(obA x)] (.tup [(.dt (.row [encL (Tr.sym p n).ob,encL b])),(boA true)]),Puk 29 [(stA nm)] (syA lispB nm),Bn .eql 28 (.tmp 34) (.tmp 36) (Value.agg #[str (Tr.sym p n).ob.sp,str (Tr.sym p n).ob.sn]) (Value.agg #[str lispB,str nm]) bT]) (by kernel_rfl) ⟨bin_iadd (by omega) (by omega) (by omega),rfl,bin_ilt (decide_eq_true (by omega)),hx,h,p_lisp _,bin_syeq hn,trivial⟩
theorem opB3 {os:List (List Dt)} {nm:List UInt8} {i:Nat} (hi:¬ i+1 < os.length) (hl:i≤1000):Tri EX opB (opS os nm i) (.out 0) (opS os nm i) :=
 twalk (c:=subC (bodyOf Tryz.f66) [1,0,1,0,0]) (s:=opS os nm i) (an:=[.av (inA ((i+1:Nat):Int)),.av (inA os.length),yF]) (ls:=[]) (ft:=[0,1,4,6]) (nb:=1) (e:=.out 0) (s':=opS os nm i) (ps:=[Bn .add 3 (.tmp 9) (.const (vi 1)) (vi ↑i) (vi 1) (vi (↑(i+1))),(vi ↑os.length)=(vi ↑os.length),Bn .lss 3 (.tmp 10) (.tmp 12) (vi (↑(i+1))) (vi ↑os.length) bF]) (by kernel_rfl) ⟨bin_iadd (by omega) (by omega) (by omega),rfl,bin_ilt (decide_eq_false (by omega)),trivial⟩
theorem op_loop {os:List Tr} {nm:List UInt8} (hl:os.length≤1000):∀ (s:List Tr) (i:Nat),os.drop i=s→i≤os.length→∀ res,Rdr.option nm s=some res→(∀ b:Tr,res=some b→Lps EX opB (opS (encOs os) nm i) .ret (opR b.ob))∧(res=none→∃ j:Nat,Lps EX opB (opS (encOs os) nm i) (.out 0) (opS (encOs os) nm j)):=by
 have hlo:(encOs os).length=os.length:=by unfold encOs;rw [List.length_map]
 intro s
 induction s with
 | nil =>
  intro i hd hi res h
  cases h
  have e1:=congrArg List.length hd
  rw [List.length_drop,List.length_nil] at e1
  exact ⟨(fun b e=>by cases e),fun _=>⟨i,.stop (opB3 (by omega) (by omega)) (fun h=>by cases h)⟩⟩
 | cons x s ih =>
  intro i hd hi res h
  have e1:=congrArg List.length hd
  rw [List.length_drop,List.length_cons] at e1
  cases s with
  | nil =>
   cases h
   rw [List.length_nil] at e1
   exact ⟨(fun b e=>by cases e),fun _=>⟨i,.stop (opB3 (by omega) (by omega)) (fun h=>by cases h)⟩⟩
  | cons y r =>
   rw [List.length_cons] at e1
   have hx:os[i]?=some x:=by rw [← List.head?_drop,hd];rfl
   have hix:IxAt (encOs os) (i:Int) 7 (encL x.ob):=⟨Int.natCast_nonneg _,by rw [Int.toNat_natCast];unfold encOs;rw [List.getElem?_map,hx];rfl,rfl⟩
   rw [Rdr.option] at h
   split at h
   case h_2=>cases h
   rename_i p n b hit
   have hxe:=items_list hit
   have hI:=p_rItems (l:=[Tr.sym p n,b]) (by show 2≤10000;decide)
   rw [← hxe] at hI
   split at h
   ·rename_i c
    cases h
    refine ⟨fun b' e=>?_,fun e=>by cases e⟩
    cases e
    exact .stop (opB2 (by omega) (by omega) hix hI (by simp [c.1,c.2])) (fun h=>by cases h)
   ·rename_i c
    obtain ⟨k1,k2⟩:=ih (i+1) (by rw [← List.drop_drop,hd];rfl) (by omega) res h
    have hs:=opB1 (nm:=nm) (b:=b.ob) (by omega) (by omega) hix hI (by
     by_cases a1:p=lispB
     ·have:n≠nm:=fun a2=>c ⟨a1,a2⟩
      simp [this]
     ·simp [a1])
    exact ⟨fun b' e=>.more hs (k1 b' e),fun e=>by
     obtain ⟨j,k3⟩:=k2 e
     exact ⟨j,.more hs k3⟩⟩
theorem p_option1 {os:List Tr} {nm:List UInt8} {b:Tr} (hl:os.length≤1000) (h3:3≤os.length) (h:Rdr.option nm (os.drop 3)=some (some b)):Puk 66 [rowA os,stA nm] (.tup [trA b,boA true]):=by
 have ht:=((op_loop hl _ 3 rfl h3 _ h).1 b rfl).tri
 generalize encOs os=rs at *
 exact pwalk (an:=[]) (ls:=[.inv [0,1,4,6] 1 (.ret) (opR b.ob)]) (ps:=[Tri EX (.loop (subC (bodyOf Tryz.f66) [1,0,1,0,0])) (opS rs nm 3) (.ret) (opR b.ob)]) Tryz.func66 (by kernel_rfl) (by kernel_rfl) ⟨ht,trivial⟩
theorem p_option0 {os:List Tr} {nm:List UInt8} (hl:os.length≤1000) (h3:3≤os.length) (h:Rdr.option nm (os.drop 3)=some none):Puk 66 [rowA os,stA nm] (.tup [obA zOb,boA false]):=by
 obtain ⟨j,hj⟩:=(op_loop hl _ 3 rfl h3 _ h).2 rfl
 have ht:=hj.tri
 generalize encOs os=rs at *
 exact pwalk (an:=[]) (ls:=[.inv [0,1,4,6] 1 (.out 0) (opS rs nm j)]) (ps:=[Tri EX (.loop (subC (bodyOf Tryz.f66) [1,0,1,0,0])) (opS rs nm 3) (.out 0) (opS rs nm j)]) Tryz.func66 (by kernel_rfl) (by kernel_rfl) ⟨ht,trivial⟩
end Go.Proofs.YthhknjlmjefklaaGreatDoor
