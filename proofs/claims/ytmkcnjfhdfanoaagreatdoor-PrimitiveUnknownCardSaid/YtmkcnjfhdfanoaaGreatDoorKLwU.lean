/- Chapter 7: PrimitiveUnknown. -/
import Derived.Test.YtmkcnjfhdfanoaaGreatDoorKN
import Derived.Test.YtmkcnjfhdfanoaaGreatDoorKSp
namespace Go.Proofs.YtmkcnjfhdfanoaaGreatDoor
open Go.RowKit

theorem p_PrimitiveUnknown {p s : List UInt8} {l : List Raw} (hw : ∀ r ∈ l, r.Wf) : Puk 6 [syA p s, rawsA l] (boA true) := by
  cases hf : fewAllR l 12 with
  | false => exact pwalk (an := [yT, yF]) (ls := []) (ps := [Puk 12 [] (boA true), Puk 18 [(.dt (.row (List.map Raw.enc l))), (inA 12)] (boA false)]) Tryz.func6 (by kernel_rfl) (by kernel_rfl) ⟨p_first, (p_FewAll l 12).b hf, trivial⟩
  | true =>
  obtain ⟨h8, hr, hv⟩ := fewAll_ok (by decide) (by decide) hf
  obtain ⟨o, e, _, h1, h2⟩ := p_ap p s hv
  obtain ⟨b, g1, g2⟩ := p_gd p s hv
  have hm := p_mkOs h8 fun r hx => ⟨fewR_fit (by decide) (by decide) (hr r hx), hw r hx⟩
  exact pwalk (an := [yT, yT, .av (rowA (l.map mkT)), .av (.tup [obA o, inA e]), .av (.tup [obA o, inA e]), yT, .av (boA b), .av (boA b), yT]) (ls := []) (ps := [Puk 12 [] (boA true), Puk 18 [(.dt (.row (List.map Raw.enc l))), (inA 12)] (boA true), Puk 19 [(.dt (.row (List.map Raw.enc l)))] (.dt (.row (List.map (fun t => encL t.ob) (List.map mkT l)))), Puk 20 [(syA p s), (.dt (.row (List.map (fun t => encL t.ob) (List.map mkT l))))] (.tup [(obA o), (inA e)]), Puk 21 [(syA p s), (.dt (.row (List.map (fun t => encL t.ob) (List.map mkT l))))] (.tup [(obA o), (inA e)]), Bn .eql 37 (.tmp 29) (.tmp 30) (vi e) (vi e) bT, Puk 24 [(syA p s), (.dt (.row (List.map (fun t => encL t.ob) (List.map mkT l))))] (boA b), Puk 25 [(syA p s), (.dt (.row (List.map (fun t => encL t.ob) (List.map mkT l))))] (boA b), Bn .eql 4 (.tmp 35) (.tmp 38) (Value.bool b) (Value.bool b) bT]) Tryz.func6 (by kernel_rfl) (by kernel_rfl)
    ⟨p_first, (p_FewAll l 12).b hf, hm, h1, h2, bin_ieq (decide_eq_true rfl), g1, g2, bin_beq Tryz.underlying4 (beqT b), trivial⟩
theorem unknown7_any (W : World) (hG : Gx W) (p s : List UInt8) (_ : p.length ≤ 9223372036854775807) (_ : s.length ≤ 9223372036854775807) (l : List Raw) (hw : ∀ s ∈ l, s.Wf) (A : Option Addr) (m c : Nat) (_ : m ≤ 9223372036854775807) (hr : Rd (fun _ => True) W (.slice A m c) (.row (l.map Raw.enc))) :
    Says 6 #[.agg #[str p, str s], .slice A m c] W :=
  (p_PrimitiveUnknown (p := p) (s := s) hw).law (ok := fun _ => True) hG ⟨_, _, rfl, rv_sy _ _ _ _, _, _, rfl, hr, rfl⟩
end Go.Proofs.YtmkcnjfhdfanoaaGreatDoor
