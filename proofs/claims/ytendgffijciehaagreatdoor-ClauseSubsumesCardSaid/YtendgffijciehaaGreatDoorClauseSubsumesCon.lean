/- The contract of lispproverlaw19.ClauseSubsumes in the row's own words. -/
import Derived.Test.YtendgffijciehaaGreatDoorFC
import Derived.Test.YtendgffijciehaaGreatDoorFO
import Derived.Test.YtendgffijciehaaGreatDoorFC
import Derived.Test.YtendgffijciehaaGreatDoorFC
import Derived.Carry
namespace Go.Proofs.YtendgffijciehaaGreatDoor.clauseSubsumes
open Go.ChangeShapes Go.WideShapes Go.ChangeAt Go.RowKit
open Go.ChangeMaps (open_string)

theorem laidOut : laidOutB Tryz.prog = true := by kernel_rfl
set_option maxRecDepth 100000 in
theorem contract (H : Type) (enc : TypeId × Value → H) (W : World) (base : Nat) (args : Array Value) (ds gs : List (DataW H)) (before : List MemPlace)
    (hval : ∀ (j : Nat) t v, Tryz.f6.params[j]? = some t → args[j]? = some v → Value.okWide Tryz.prog W .any base t v)
    (hW : DataW.Whole enc Tryz.prog Tryz.f6.params.toList Rows.clauseSubsumesSpec.vars false W args.toList ds gs before) (hL : laidMet Tryz.prog Rows.clauseSubsumesRow.laid W) :
    Calls Tryz.prog 6 args W fun e W' => ∃ v, e = .returned v ∧ Rows.clauseSubsumesSpec.post enc Tryz.prog Tryz.f6 false true false false W args v W' := by
  have ht : Gx W := ⟨table (by kernel_rfl) hL, trivial⟩
  have hW' := hW
  obtain ⟨p, q, hA0, hV, rfl, hfz, hnd⟩ := hW
  have hA : DataW.TrodAll enc Tryz.prog W 0 (fun _ => true) true Tryz.f6.params.toList args.toList ds p := hA0
  rw [Tryz.params6] at hA hval
  obtain ⟨v0, vs0, d0, ds0, p0, q0, hargs, rfl, rfl, h0, r0⟩ := trodAll_cons hA
  obtain ⟨v1, vs1, d1, ds1, p1, q1, rfl, rfl, rfl, h1, r1⟩ := trodAll_cons r0
  obtain ⟨v2, vs2, d2, ds2, p2, q2, rfl, rfl, rfl, h2, r2⟩ := trodAll_cons r1
  obtain ⟨rfl, rfl, rfl⟩ := trodAll_nil r2
  obtain rfl : args = #[v0, v1, v2] := by cases args; simp_all
  obtain ⟨rfl, rfl⟩ := trodVars_none hV
  have k0 := h0
  have k1 := h1
  have k2 := h2
  have lt0 : ∀ x ∈ p0, x.block < W.heap.size := fun x hx => hW'.lt x (by simp [hx])
  have lt1 : ∀ x ∈ p1, x.block < W.heap.size := fun x hx => hW'.lt x (by simp [hx])
  have lt2 : ∀ x ∈ p2, x.block < W.heap.size := fun x hx => hW'.lt x (by simp [hx])
  obtain ⟨s0, A0, n0, c0, rfl, ws0, hn0, rd0⟩ := open_raws (hval 0 22 v0 rfl rfl) h0
  obtain ⟨s1, A1, n1, c1, rfl, ws1, hn1, rd1⟩ := open_raws (hval 1 22 v1 rfl rfl) h1
  obtain ⟨s2, A2, n2, c2, rfl, ws2, hn2, rd2⟩ := open_raws (hval 2 22 v2 rfl rfl) h2
  clear hA0
  have walk := subs19_any W ht s0 ws0 A0 n0 c0 hn0 rd0 s1 ws1 A1 n1 c1 hn1 rd1 s2 ws2 A2 n2 c2 hn2 rd2
  refine walk.mono fun e W' ⟨he, hb⟩ => ?_
  subst he
  exact ⟨_, rfl, _, _, _, [], _, [], hW', trodAll_cons_mk (shut_bool Tryz.underlying4 _) trodAll_mk0, (trodAll_cons_mk (Below.trod laidOut (by kernel_rfl) (of_decide_eq_true (by kernel_rfl)) k0 hb lt0) (trodAll_cons_mk (Below.trod laidOut (by kernel_rfl) (of_decide_eq_true (by kernel_rfl)) k1 hb lt1) (trodAll_cons_mk (Below.trod laidOut (by kernel_rfl) (of_decide_eq_true (by kernel_rfl)) k2 hb lt2) trodAll_mk0))), rfl, hb.frame _, fun h => by cases h⟩

end Go.Proofs.YtendgffijciehaaGreatDoor.clauseSubsumes
