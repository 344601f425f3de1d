/- ClauseEquivalent as a contract of the machine. -/
import Derived.Test.YtbpmpdadppamgaaGreatDoorGIt
import Derived.Test.YtbpmpdadppamgaaGreatDoorGQ
namespace Go.Proofs.YtbpmpdadppamgaaGreatDoor
open Go.RowKit
theorem a14(W:World)(hG:Gx W)(r:Raw)(_:r.Wf)(A:Option Addr)(n c:Nat)(hr:Rd (fun _=>True) W (.slice A n c) (.row (r.l.map Raw.enc)))
  (q:List Raw) (_:∀s∈q,s.Wf) (A2:Option Addr) (n2 c2:Nat) (_:n2≤9223372036854775807) (hq:Rd (fun _=>True) W (.slice A2 n2 c2) (.row (q.map Raw.enc))):Says 5 #[Mt r (.slice A n c),.slice A2 n2 c2] W :=
 (a7j r (by have:=hq.len;rw[Cc]at this;omega)).law (ok:=fun _=>True) hG ⟨_,_,rfl,RV.ofRaw hr,_,[],rfl,hq,rfl⟩
end Go.Proofs.YtbpmpdadppamgaaGreatDoor
