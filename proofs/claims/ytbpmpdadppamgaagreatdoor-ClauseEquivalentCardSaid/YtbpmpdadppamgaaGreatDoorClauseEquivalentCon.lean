/- The contract of lispproverlaw19.ClauseEquivalent in the row's own words. -/
import Derived.Test.YtbpmpdadppamgaaGreatDoorGH
import Derived.Test.YtbpmpdadppamgaaGreatDoorGIu
import Derived.Test.YtbpmpdadppamgaaGreatDoorGH
import Derived.Test.YtbpmpdadppamgaaGreatDoorGH
import Derived.Carry
set_option maxRecDepth 100000
set_option maxHeartbeats 4000000
namespace Go.Proofs.YtbpmpdadppamgaaGreatDoor.clauseEquivalent
open Go.Proofs.Tryz
open Go.ChangeShapes Go.WideShapes Go.ChangeAt Go.RowKit
open Go.ChangeMaps (open_string)
theorem laidOut:laidOutB prog=true:=by kernel_rfl
theorem contract(H:Type)(enc:TypeId×Value→H)(W:World)(base:Nat)(args:Array Value)(ds gs:List (DataW H))(before:List MemPlace)
  (hval:∀(j:Nat) t v,f5.params[j]?=some t→args[j]?=some v→Value.okWide prog W .any base t v)
  (hW:DataW.Whole enc prog f5.params.toList Rows.clauseEquivalentSpec.vars false W args.toList ds gs before) (hL:laidMet prog Rows.clauseEquivalentRow.laid W) :
  Calls prog 5 args W fun e W'=>∃v,e=.returned v∧Rows.clauseEquivalentSpec.post enc prog f5 false true false false W args v W':=by
 have ht:Gx W:=⟨table (by kernel_rfl) hL,Z⟩;have hW':=hW;obtain⟨p,q,rE,hV,rfl,hfz,hnd⟩:=hW;have hA:DataW.TrodAll enc prog W 0 (fun _=>true) true f5.params.toList args.toList ds p:=rE;rw[params5]at hA hval;obtain⟨v0,OG,d0,ds0,p0,q0,hargs,rfl,rfl,h0,r0⟩:=trodAll_cons hA;obtain⟨v1,vs1,d1,ds1,p1,q1,rfl,rfl,rfl,h1,r1⟩:=trodAll_cons r0;obtain⟨rfl,rfl,rfl⟩:=trodAll_nil r1;obtain rfl:args=#[v0,v1]:=by cases args;simp_all
 obtain⟨rfl,rfl⟩:=trodVars_none hV;have k0:=h0;have k1:=h1;have Cc:∀x∈p0,x.block < W.heap.size:=fun x hx=>hW'.lt x (by simp[hx])
 have Ce:∀x∈p1,x.block < W.heap.size:=fun x hx=>hW'.lt x (by simp[hx])
 obtain⟨s0,A0,n0,c0,rfl,Cf,Cg⟩:=a4j (hval 0 55 v0 rfl rfl) h0;obtain⟨s1,A1,n1,c1,rfl,Ch,hn1,Ci⟩:=vg (hval 1 22 v1 rfl rfl) h1;clear rE;have walk:=a14 W ht s0 Cf A0 n0 c0 Cg s1 Ch A1 n1 c1 hn1 Ci;refine walk.mono fun e W' ⟨he,hb⟩=>?_
 subst he;exact⟨_,rfl,_,_,_,[],_,[],hW',trodAll_cons_mk (shut_bool Tryz.underlying4 _) trodAll_mk0,(trodAll_cons_mk (Below.trod laidOut (by kernel_rfl) (bv (by kernel_rfl)) k0 hb Cc) (trodAll_cons_mk (Below.trod laidOut (by kernel_rfl) (bv (by kernel_rfl)) k1 hb Ce) trodAll_mk0)),rfl,hb.frame _,fun h=>by cases h⟩
end Go.Proofs.YtbpmpdadppamgaaGreatDoor.clauseEquivalent
