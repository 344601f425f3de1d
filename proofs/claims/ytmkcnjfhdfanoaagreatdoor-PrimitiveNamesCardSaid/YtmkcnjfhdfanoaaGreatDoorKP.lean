/- Comparison of symbols. -/
import Derived.Test.YtmkcnjfhdfanoaaGreatDoorKN
namespace Go.Proofs.YtmkcnjfhdfanoaaGreatDoor
open Go.RowKit

theorem syFs : (Tryz.prog).fieldsOf 23 = #[⟨"Package", 9, 0, false, "", "", 0⟩, ⟨"Name", 9, 1, false, "", "", 16⟩] := by kernel_rfl
theorem syU : Tryz.prog.underlying 23 = some (.struct (Tryz.prog.fieldsOf 23)) := by kernel_rfl
theorem syH : Tryz.prog.stoodInHeld 23 = false := by kernel_rfl
theorem syG : Tryz.prog.eqGuardType Tryz.prog.depth 23 = false := by kernel_rfl
theorem part_s (p s : List UInt8) (w : World) : (part 9 #[str p, str s] 0).run Tryz.prog w = .ok (str p) w ∧ (part 9 #[str p, str s] 1).run Tryz.prog w = .ok (str s) w := by
  constructor <;> simp [part]
theorem bin_syne {x y : Operand} {p s p' s' : List UInt8} {r : Bool} (h : r = !(decide (p = p') && decide (s = s'))) : BinIs Tryz.prog .neq 23 x y (.agg #[str p, str s]) (.agg #[str p', str s']) (.bool r) := by
  intro w
  have e : (Op.equalIn 10000 23 (.agg #[str p, str s]) (.agg #[str p', str s'])).run Tryz.prog w = .ok (decide (p = p') && decide (s = s')) w := by
    rw [run_equalIn_agg w 9999 _ _ _ syU syH, syFs]
    have e1 := run_equalIn_string (P := Tryz.prog) w 9998 9 ⟨p.toArray⟩ ⟨p'.toArray⟩ Tryz.underlying9
    have e2 := run_equalIn_string (P := Tryz.prog) w 9998 9 ⟨s.toArray⟩ ⟨s'.toArray⟩ Tryz.underlying9
    rw [toList_str, toList_str, eqD] at e1 e2
    simp only [Op.eqFields, Sem.run_bind, (part_s p s w).1, (part_s p s w).2, (part_s p' s' w).1, (part_s p' s' w).2, Result.andThen_ok, e1, e2, ne_eq, Sem.run_ite, Sem.run_pure]
    cases decide (p = p') <;> cases decide (s = s') <;> simp
  rw [h]
  simp only [Sem.run_bind, run_eqGuard_agg w .neq _ x y _ _ syG, Result.andThen_ok, run_neq_struct, e]
end Go.Proofs.YtmkcnjfhdfanoaaGreatDoor
