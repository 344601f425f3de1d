/- Subsumes of both texts. -/
import Derived.Test.YtbpmpdadppamgaaGreatDoorGHd
namespace Go.Proofs.YtbpmpdadppamgaaGreatDoor
open Go.Proofs.Tryz
open Go.RowKit
open Te
theorem a4q(p:Te)(r:List Te):C8 (p::r)=.dt (.row (o8 p::r.map Te.enc)):=by
 show AV.dt (.row (p.enc::r.map Te.enc))=_;rw[mf]
theorem b1Y(p:Te)(rs:aa0)(h:∀x∈rs,x.length=11):bV (o8 p::rs) 11 ((some (1:Int)).getD 0) ((none:Option Int).getD ((o8 p::rs).length:Int)) rs :=
 ⟨by show (0:Int)≤1;omega,by show (1:Int)≤((rs.length+1:Nat):Int);omega,Int.le_refl _,by
  show rs=List.drop 1 (List.take (((rs.length+1:Nat):Int)).toNat (o8 p::rs));rw[Int.toNat_natCast,Za2 I];rfl,.inr fun x hx=>by
  rcases Za3.1 hx with rfl | hx
  ·rfl
  ·exact h x hx⟩
theorem b1Z(r:List Te):∀x∈r.map Te.enc,x.length=11:=fun x hx=>by
 obtain⟨y,_,rfl⟩:=Zaw.1 hx;rw[mf];rfl
abbrev FV:FuncId:=43
theorem b2a{p y:Te}{rs ss:aa0}{b:List Te}(h:j5 86 [o6 p,o6 y,.dt (.row ss)] (.l7 [.dt (.row []),l5 false])):j5 85 [o6 y,.pin [.dt (.row (o8 p::rs))],.pin [.dt (.row ss)],.pin [C8 b]] (l5 false) :=
 pV [.no,.av (.l7 [.dt (.row []),l5 false])] [_] func85 ⟨h,Z⟩
theorem b2b{p y:Te}{rs ss ss':aa0}{b:List Te}{c:Bool}(hr:∀x∈rs,x.length=11)(h:j5 86 [o6 p,o6 y,.dt (.row ss)] (.l7 [.dt (.row ss'),l5 true]))(hs:j5 FV [.dt (.row rs),C8 b,.dt (.row ss')] (l5 c)):j5 85 [o6 y,.pin [.dt (.row (o8 p::rs))],.pin [.dt (.row ss)],.pin [C8 b]] (l5 c) :=
 pV [.no,.av (.l7 [.dt (.row ss'),l5 true]),.av (.dt (.row rs)),.av (l5 c)] [_,bV (o8 p::rs) 11 ((some 1).getD 0) (none.getD ↑(o8 p::rs).length) rs,(none:Option Int)=none∨(none:Option Int)=none,_] func85 ⟨h,b1Y p rs hr,.inl rfl,hs,Z⟩
theorem b2c{p:Te}{rs ss:aa0}{b:List Te}{c:Bool}(hl:rs.length≤1000)(h:j5 59 [C8 b,.au 85 [.pin [.dt (.row (o8 p::rs))],.pin [.dt (.row ss)],.pin [C8 b]]] (l5 c)):j5 FV [.dt (.row (o8 p::rs)),C8 b,.dt (.row ss)] (l5 c) :=
 pV [.av (j4 (rs.length+1:Nat)),yF,.av (l5 c)] [(vi (↑(rs.length+1)))=(vi (↑(o8 p::rs).length)),Bk .eql 3 8 0 (↑(rs.length+1)) bF,_] func43 ⟨rfl,C9 (WF J),h,Z⟩
theorem TA{B:List Te}(hb:∀y∈B,y.L9)(hl:B.length≤1000):∀(a:List Te) (s:As),a.length≤1000→(∀x∈a,x.L9)→aX s→j5 FV [C8 a,C8 B,.dt (.row (N9 s))] (l5 (tq a B s))
 |[],s,_,_,_=>Vp B (N9 s)
 |p::r,s,ha,hm,hs=>by
  have hr:r.length≤1000:=by rw[yM]at ha;omega
  have hpm:=hm p (NE ..);rw[a4q,tq];refine b2c (by rw[Cc];exact hr) (Db (cs:=[.pin [.dt (.row (o8 p::r.map Te.enc))],.pin [.dt (.row (N9 s))],.pin [C8 B]]) (p:=fun l=>(mt p l s).1 && tq r B (mt p l s).2) J fun y hy=>?_);obtain⟨k1,k2⟩:=a6Q hpm (hb y hy) hs;cases hc:(mt p y s).1 with
  |false=>rw[Bool.false_and];exact b2a (k2 hc)
  |true=>rw[Bool.true_and];exact b2b (b1Z r) (k1 hc) (TA hb hl r _ hr (fun x hx=>hm x (Cg _ hx)) (Xn hpm y s (hb y hy) hs))
theorem a9N{a b:List Te}{c:Bool}(h:¬8 < a.length)(hs:j5 FV [C8 a,C8 b,.dt (.row [])] (l5 c)):j5 14 [C8 a,C8 b] (l5 c) :=
 pV [.av (j4 a.length),yF,.av (l5 c)] [(vi ↑a.length)=(vi (↑(List.map Te.enc a).length)),Bk .gtr 3 6 8 ↑a.length bF,_] func14 ⟨F9 _,K4 (WF J),hs,Z⟩
end Go.Proofs.YtbpmpdadppamgaaGreatDoor
