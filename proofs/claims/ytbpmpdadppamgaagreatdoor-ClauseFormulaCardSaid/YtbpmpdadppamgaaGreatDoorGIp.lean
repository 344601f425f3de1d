/- ClauseFormula as a contract of the machine. -/
import Derived.Test.YtbpmpdadppamgaaGreatDoorGIo
import Derived.Test.YtbpmpdadppamgaaGreatDoorGQ
namespace Go.Proofs.YtbpmpdadppamgaaGreatDoor
open Go.RowKit
theorem a2w(W:World)(hG:Gx W)(l:List Raw)(_:∀s∈l,s.Wf)(A:Option Addr)(n c:Nat)(_:n≤9223372036854775807)(hr:Rd (fun _=>True) W (.slice A n c) (.row (l.map Raw.enc)))
  (q:List Raw) (_:∀s∈q,s.Wf) (A2:Option Addr) (n2 c2:Nat) (_:n2≤9223372036854775807) (hq:Rd (fun _=>True) W (.slice A2 n2 c2) (.row (q.map Raw.enc))):Says 4 #[.slice A n c,.slice A2 n2 c2] W :=
 (a9Q (by have:=hr.len;rw[Cc]at this;omega) (by have:=hq.len;rw[Cc]at this;omega)).law (ok:=fun _=>True) hG ⟨_,_,rfl,hr,_,[],rfl,hq,rfl⟩
end Go.Proofs.YtbpmpdadppamgaaGreatDoor
