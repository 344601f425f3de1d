/- Arity of both texts for any symbol. -/
import Derived.Test.YtmkcnjfhdfanoaaGreatDoorKM
namespace Go.Proofs.YtmkcnjfhdfanoaaGreatDoor
open Go.RowKit

theorem ari_any (p s : List UInt8) : ∃ (a : Int) (b : Bool), Puk 15 [syA p s] (.tup [inA a, boA b]) ∧ Puk 16 [syA p s] (.tup [inA a, boA b]) := by
  by_cases hp : p = lispB
  · subst hp
    by_cases hs : ∀ x ∈ primL, s ≠ x.1
    · exact ⟨0, false, p_oArU hs, p_rArU hs⟩
    · obtain ⟨x, hx, hsx⟩ : ∃ x ∈ primL, s = x.1 := by
        simp only [ne_eq, Classical.not_forall, Classical.not_not] at hs
        obtain ⟨x, hx, h⟩ := hs
        exact ⟨x, hx, h⟩
      obtain ⟨i, hi⟩ := List.mem_iff_getElem?.1 hx
      obtain ⟨s', a⟩ := x
      cases hsx
      exact ⟨_, _, p_oAri hi, p_rAri hi⟩
  · exact ⟨0, false, p_oArP hp, p_rArP hp⟩
theorem ari_pick (n : Int) : Puk 15 [syA lispB (pickN n).1] (.tup [inA ((pickN n).2 : Int), boA true]) ∧ Puk 16 [syA lispB (pickN n).1] (.tup [inA ((pickN n).2 : Int), boA true]) := ⟨p_oAri (pick_get n), p_rAri (pick_get n)⟩
end Go.Proofs.YtmkcnjfhdfanoaaGreatDoor
