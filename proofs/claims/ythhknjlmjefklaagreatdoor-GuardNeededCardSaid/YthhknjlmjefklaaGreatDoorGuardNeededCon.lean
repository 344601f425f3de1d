/- The contract of lispproverlaw14.GuardNeeded in the row's own words. -/
import Derived.Test.YthhknjlmjefklaaGreatDoorBG
import Derived.Test.YthhknjlmjefklaaGreatDoorBX
import Derived.Test.YthhknjlmjefklaaGreatDoorBG
import Derived.Test.YthhknjlmjefklaaGreatDoorBG
import Derived.Carry
set_option maxRecDepth 100000
set_option maxHeartbeats 4000000
namespace Go.Proofs.YthhknjlmjefklaaGreatDoor.guardNeeded
open Go.Proofs.Tryz
open Go.ChangeShapes Go.WideShapes Go.ChangeAt Go.RowKit
open Go.ChangeMaps (open_string)
theorem laidOut:laidOutB prog=true:=by kernel_rfl
theorem contract(H:Type)(enc:TypeId×Value→H)(W:World)(base:Nat)(args:Array Value)(ds gs:List (DataW H))(before:List MemPlace)
  (hval:∀(j:Nat) t v,f4.params[j]?=some t→args[j]?=some v→Value.okWide prog W .any base t v)
  (hW:DataW.Whole enc prog f4.params.toList Rows.guardNeededSpec.vars false W args.toList ds gs before) (hL:laidMet prog Rows.guardNeededRow.laid W) :
  Calls prog 4 args W fun e W'=>∃v,e=.returned v∧Rows.guardNeededSpec.post enc prog f4 false true false false W args v W':=by
 have ht:Gx W:=⟨table (by kernel_rfl) hL,Z⟩;have hW':=hW;obtain⟨p,q,hA0,hV,rfl,hfz,hnd⟩:=hW;have hA:DataW.TrodAll enc prog W 0 (fun _=>true) true f4.params.toList args.toList ds p:=hA0;rw[params4]at hA hval;obtain⟨v0,vs0,d0,ds0,p0,q0,hargs,rfl,rfl,h0,r0⟩:=trodAll_cons hA;obtain⟨v1,vs1,d1,ds1,p1,q1,rfl,rfl,rfl,h1,r1⟩:=trodAll_cons r0;obtain⟨v2,vs2,d2,ds2,p2,q2,rfl,rfl,rfl,h2,r2⟩:=trodAll_cons r1;obtain⟨rfl,rfl,rfl⟩:=trodAll_nil r2;obtain rfl:args=#[v0,v1,v2]:=by cases args;simp_all
 obtain⟨rfl,rfl⟩:=trodVars_none hV;have k0:=h0;have k1:=h1;have k2:=h2;have lt0:∀x∈p0,x.block < W.heap.size:=fun x hx=>hW'.lt x (by simp[hx])
 have lt1:∀x∈p1,x.block < W.heap.size:=fun x hx=>hW'.lt x (by simp[hx])
 have lt2:∀x∈p2,x.block < W.heap.size:=fun x hx=>hW'.lt x (by simp[hx])
 obtain⟨s0,A0,n0,c0,rfl,ws0,rd0⟩:=Xo (hval 0 51 v0 rfl rfl) h0;obtain⟨s1,A1,n1,c1,rfl,ws1,rd1⟩:=Xo (hval 1 51 v1 rfl rfl) h1;obtain⟨s2,A2,n2,c2,rfl,ws2,hn2,rd2⟩:=a6V (hval 2 22 v2 rfl rfl) h2;clear hA0;have walk:=a5s W ht s0 ws0 A0 n0 c0 rd0 s1 ws1 A1 n1 c1 rd1 s2 ws2 A2 n2 c2 hn2 rd2;refine walk.mono fun e W' ⟨he,hb⟩=>?_
 subst he;exact⟨_,rfl,_,_,_,[],_,[],hW',trodAll_cons_mk (shut_bool Tryz.underlying4 _) trodAll_mk0,(trodAll_cons_mk (Below.trod laidOut (by kernel_rfl) (Zad (by kernel_rfl)) k0 hb lt0) (trodAll_cons_mk (Below.trod laidOut (by kernel_rfl) (Zad (by kernel_rfl)) k1 hb lt1) (trodAll_cons_mk (Below.trod laidOut (by kernel_rfl) (Zad (by kernel_rfl)) k2 hb lt2) trodAll_mk0))),rfl,hb.frame _,fun h=>by cases h⟩
end Go.Proofs.YthhknjlmjefklaaGreatDoor.guardNeeded
