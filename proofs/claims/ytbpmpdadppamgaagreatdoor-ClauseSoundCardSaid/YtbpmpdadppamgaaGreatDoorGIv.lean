/- ClauseSound as a contract of the machine. -/
import Derived.Test.YtbpmpdadppamgaaGreatDoorGIq
import Derived.Test.YtbpmpdadppamgaaGreatDoorGQ
namespace Go.Proofs.YtbpmpdadppamgaaGreatDoor
open Go.RowKit
theorem a15(W:World)(hG:Gx W)(l:List Raw)(_:∀s∈l,s.Wf)(A:Option Addr)(n c:Nat)(_:n≤9223372036854775807)(hr:Rd (fun _=>True) W (.slice A n c) (.row (l.map Raw.enc)))
  (p:List Raw) (_:∀s∈p,s.Wf) (A2:Option Addr) (n2 c2:Nat) (_:n2≤9223372036854775807) (hp:Rd (fun _=>True) W (.slice A2 n2 c2) (.row (p.map Raw.enc)))
  (q:List Raw) (_:∀s∈q,s.Wf) (A3:Option Addr) (n3 c3:Nat) (_:n3≤9223372036854775807) (hq:Rd (fun _=>True) W (.slice A3 n3 c3) (.row (q.map Raw.enc))):Says 3 #[.slice A n c,.slice A2 n2 c2,.slice A3 n3 c3] W :=
 (a7c (by have:=hr.len;rw[Cc]at this;omega) (by have:=hp.len;rw[Cc]at this;omega) (by have:=hq.len;rw[Cc]at this;omega)).law (ok:=fun _=>True) hG ⟨_,_,rfl,hr,_,_,rfl,hp,_,[],rfl,hq,rfl⟩
end Go.Proofs.YtbpmpdadppamgaaGreatDoor
