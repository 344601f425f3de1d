/- Chapter 7: PrimitiveApplies. -/
import Derived.Test.YtmkcnjfhdfanoaaGreatDoorKN
namespace Go.Proofs.YtmkcnjfhdfanoaaGreatDoor
open Go.RowKit

theorem p_PrimitiveApplies {n : Int} {l : List Raw} (hw : ∀ r ∈ l, r.Wf) : Puk 4 [inA n, rawsA l] (boA true) := by
  cases hf : fewAllR l 12 with
  | false => exact pwalk (an := [yT, yF]) (ls := []) (ps := [Puk 12 [] (boA true), Puk 18 [(.dt (.row (List.map Raw.enc l))), (inA 12)] (boA false)]) Tryz.func4 (by kernel_rfl) (by kernel_rfl) ⟨p_first, (p_FewAll l 12).b hf, trivial⟩
  | true =>
  obtain ⟨h8, hr, hv⟩ := fewAll_ok (by decide) (by decide) hf
  obtain ⟨o, e, ho, h1, h2⟩ := p_ap lispB (pickN n).1 hv
  have hm := p_mkOs h8 fun r hx => ⟨fewR_fit (by decide) (by decide) (hr r hx), hw r hx⟩
  exact pwalk (an := [yT, yT, .av (rowA (l.map mkT)), .av (syA lispB (pickN n).1), .av (.tup [obA o, inA e]), .av (syA lispB (pickN n).1), .av (.tup [obA o, inA e]), yT, yT]) (ls := []) (ps := [Puk 12 [] (boA true), Puk 18 [(.dt (.row (List.map Raw.enc l))), (inA 12)] (boA true), Puk 19 [(.dt (.row (List.map Raw.enc l)))] (.dt (.row (List.map (fun t => encL t.ob) (List.map mkT l)))), Puk 17 [(inA n)] (syA lispB (pickN n).fst), Puk 20 [(syA lispB (pickN n).fst), (.dt (.row (List.map (fun t => encL t.ob) (List.map mkT l))))] (.tup [(obA o), (inA e)]), Puk 17 [(inA n)] (syA lispB (pickN n).fst), Puk 21 [(syA lispB (pickN n).fst), (.dt (.row (List.map (fun t => encL t.ob) (List.map mkT l))))] (.tup [(obA o), (inA e)]), Bn .eql 37 (.tmp 31) (.tmp 32) (vi e) (vi e) bT, Puk 22 [(obA o), (obA o)] (boA true)]) Tryz.func4 (by kernel_rfl) (by kernel_rfl)
    ⟨p_first, (p_FewAll l 12).b hf, hm, p_pick n, h1, p_pick n, h2, bin_ieq (decide_eq_true rfl), p_rEqR o (ob_wf ho), trivial⟩
theorem applies7_any (W : World) (hG : Gx W) (n : Int) (_ : -9223372036854775808 ≤ n) (_ : n ≤ 9223372036854775807) (l : List Raw) (hw : ∀ s ∈ l, s.Wf) (A : Option Addr) (m c : Nat) (_ : m ≤ 9223372036854775807) (hr : Rd (fun _ => True) W (.slice A m c) (.row (l.map Raw.enc))) :
    Says 4 #[.int .i64 n, .slice A m c] W :=
  (p_PrimitiveApplies (n := n) hw).law (ok := fun _ => True) hG ⟨_, _, rfl, .val _, _, _, rfl, hr, rfl⟩
end Go.Proofs.YtmkcnjfhdfanoaaGreatDoor
