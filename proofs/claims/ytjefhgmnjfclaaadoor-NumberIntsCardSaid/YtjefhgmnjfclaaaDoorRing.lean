/- lispproverlaw1.NumberRing returns true. -/
import Derived.Test.YtjefhgmnjfclaaaDoorFirst
namespace Go.Proofs.YtjefhgmnjfclaaaDoor
open Go.RowKit

theorem strs3 (w : World) (t : TypeId) (a b c : List UInt8) : Strs (w.alloc (.cells #[.string ⟨a.toArray⟩, .string ⟨b.toArray⟩, .string ⟨c.toArray⟩] t)) w.heap.size [a, b, c] :=
  ⟨by simp, fun i h => by
    have hk := BlkIs.new w t #[.string ⟨a.toArray⟩, .string ⟨b.toArray⟩, .string ⟨c.toArray⟩]
    have h3 : i < 3 := h
    rcases i with _ | _ | _ | i
    · exact hk.cell 0
    · exact hk.cell 1
    · exact hk.cell 2
    · omega⟩

set_option maxHeartbeats 4000000 in
set_option maxRecDepth 100000 in
theorem ring_any (a b c : List UInt8) (w : World) (ht : Tab w) (ha : a.length ≤ 9223372036854775807) (hb : b.length ≤ 9223372036854775807) (hc : c.length ≤ 9223372036854775807) :
    Calls Tryd.prog 7 #[.string ⟨a.toArray⟩, .string ⟨b.toArray⟩, .string ⟨c.toArray⟩] w (RetTrue w) := by
  have HSh : Hid (∀ w' : World, Calls Tryd.prog 14 #[.slice (some ⟨w'.heap.size, 0, none⟩) 3 3] (w'.alloc (.cells #[.string ⟨a.toArray⟩, .string ⟨b.toArray⟩, .string ⟨c.toArray⟩] 9)) (RetPure (.bool ([a, b, c].all fun l => decide (l.length ≤ 60))) (w'.alloc (.cells #[.string ⟨a.toArray⟩, .string ⟨b.toArray⟩, .string ⟨c.toArray⟩] 9)))) := fun w' =>
    shortL_any w'.heap.size 3 [a, b, c] _ (strs3 w' _ a b c) rfl (by omega) (by
      intro l hl
      simp only [List.mem_cons, List.not_mem_nil, or_false] at hl
      rcases hl with rfl | rfl | rfl <;> assumption)
  by_cases hsh : ([a, b, c].all fun l => decide (l.length ≤ 60)) = true
  · rw [hsh] at HSh
    simp only [List.all_cons, List.all_nil, Bool.and_true, Bool.and_eq_true, decide_eq_true_eq] at hsh
    obtain ⟨la, lb, lc⟩ := hsh
    have na := Num.of a la
    have nb := Num.of b lb
    have nc := Num.of c lc
    generalize Dec.dval a = x at na
    generalize Dec.dval b = y at nb
    generalize Dec.dval c = z at nc
    go_enter Tryd.func7, Tryd.ntmps7
    go_wp2_with fail
    refine (first_any _ ht).mono ?_
    rintro e w1 ⟨rfl, hb1⟩
    go_wp2_with fail
    refine (HSh.out _).mono ?_
    rintro e w' ⟨rfl, rfl⟩
    have hbw0 : Below w.heap.size w (w1.alloc (.cells #[.string ⟨a.toArray⟩, .string ⟨b.toArray⟩, .string ⟨c.toArray⟩] 9)) := hb1.alloc hb1.size _
    generalize w1.alloc (.cells #[.string ⟨a.toArray⟩, .string ⟨b.toArray⟩, .string ⟨c.toArray⟩] 9) = v0 at *
    go_wp2_with fail
    refine (addZ nb nc (by omega) (by omega) _ (ht.below hbw0)).mono ?_
    rintro e v1 ⟨rfl, hb⟩
    have hbw1 := hbw0.trans (hb.mono hbw0.size)
    clear hb
    go_wp2_with fail
    refine (mulZ na (nb.add nc) (by omega) (by omega) _ (ht.below hbw1)).mono ?_
    rintro e v2 ⟨rfl, hb⟩
    have hbw2 := hbw1.trans (hb.mono hbw1.size)
    clear hb
    go_wp2_with fail
    refine (addZ na nb (by omega) (by omega) _ (ht.below hbw2)).mono ?_
    rintro e v3 ⟨rfl, hb⟩
    have hbw3 := hbw2.trans (hb.mono hbw2.size)
    clear hb
    go_wp2_with fail
    refine (addZ nb na (by omega) (by omega) _ (ht.below hbw3)).mono ?_
    rintro e v4 ⟨rfl, hb⟩
    have hbw4 := hbw3.trans (hb.mono hbw3.size)
    clear hb
    rw [Int.add_comm y x]
    go_wp2_with fail
    refine (mulZ na nb (by omega) (by omega) _ (ht.below hbw4)).mono ?_
    rintro e v5 ⟨rfl, hb⟩
    have hbw5 := hbw4.trans (hb.mono hbw4.size)
    clear hb
    go_wp2_with fail
    refine (mulZ nb na (by omega) (by omega) _ (ht.below hbw5)).mono ?_
    rintro e v6 ⟨rfl, hb⟩
    have hbw6 := hbw5.trans (hb.mono hbw5.size)
    clear hb
    rw [Int.mul_comm y x]
    go_wp2_with fail
    refine (addZ na nb (by omega) (by omega) _ (ht.below hbw6)).mono ?_
    rintro e v7 ⟨rfl, hb⟩
    have hbw7 := hbw6.trans (hb.mono hbw6.size)
    clear hb
    go_wp2_with fail
    refine (addZ (na.add nb) nc (by omega) (by omega) _ (ht.below hbw7)).mono ?_
    rintro e v8 ⟨rfl, hb⟩
    have hbw8 := hbw7.trans (hb.mono hbw7.size)
    clear hb
    go_wp2_with fail
    refine (addZ nb nc (by omega) (by omega) _ (ht.below hbw8)).mono ?_
    rintro e v9 ⟨rfl, hb⟩
    have hbw9 := hbw8.trans (hb.mono hbw8.size)
    clear hb
    go_wp2_with fail
    refine (addZ na (nb.add nc) (by omega) (by omega) _ (ht.below hbw9)).mono ?_
    rintro e v10 ⟨rfl, hb⟩
    have hbw10 := hbw9.trans (hb.mono hbw9.size)
    clear hb
    rw [← Int.add_assoc x y z]
    go_wp2_with fail
    refine (mulZ na nb (by omega) (by omega) _ (ht.below hbw10)).mono ?_
    rintro e v11 ⟨rfl, hb⟩
    have hbw11 := hbw10.trans (hb.mono hbw10.size)
    clear hb
    go_wp2_with fail
    refine (mulZ (na.mul nb) nc (by omega) (by omega) _ (ht.below hbw11)).mono ?_
    rintro e v12 ⟨rfl, hb⟩
    have hbw12 := hbw11.trans (hb.mono hbw11.size)
    clear hb
    go_wp2_with fail
    refine (mulZ nb nc (by omega) (by omega) _ (ht.below hbw12)).mono ?_
    rintro e v13 ⟨rfl, hb⟩
    have hbw13 := hbw12.trans (hb.mono hbw12.size)
    clear hb
    go_wp2_with fail
    refine (mulZ na (nb.mul nc) (by omega) (by omega) _ (ht.below hbw13)).mono ?_
    rintro e v14 ⟨rfl, hb⟩
    have hbw14 := hbw13.trans (hb.mono hbw13.size)
    clear hb
    rw [← Int.mul_assoc x y z]
    go_wp2_with fail
    refine (mulZ na nb (by omega) (by omega) _ (ht.below hbw14)).mono ?_
    rintro e v15 ⟨rfl, hb⟩
    have hbw15 := hbw14.trans (hb.mono hbw14.size)
    clear hb
    go_wp2_with fail
    refine (mulZ na nc (by omega) (by omega) _ (ht.below hbw15)).mono ?_
    rintro e v16 ⟨rfl, hb⟩
    have hbw16 := hbw15.trans (hb.mono hbw15.size)
    clear hb
    go_wp2_with fail
    refine (addZ (na.mul nb) (na.mul nc) (by omega) (by omega) _ (ht.below hbw16)).mono ?_
    rintro e v17 ⟨rfl, hb⟩
    have hbw17 := hbw16.trans (hb.mono hbw16.size)
    clear hb
    rw [← Int.mul_add x y z]
    go_wp2
    go_ret
    exact ⟨rfl, hbw17⟩
  · have hsh' : ([a, b, c].all fun l => decide (l.length ≤ 60)) = false := by simpa using hsh
    rw [hsh'] at HSh
    clear hsh hsh'
    go_enter Tryd.func7, Tryd.ntmps7
    go_wp2_with fail
    refine (first_any _ ht).mono ?_
    rintro e w1 ⟨rfl, hb1⟩
    go_wp2_with fail
    refine (HSh.out _).mono ?_
    rintro e w' ⟨rfl, rfl⟩
    go_wp2
    go_ret
    exact ⟨rfl, hb1.alloc hb1.size _⟩
end Go.Proofs.YtjefhgmnjfclaaaDoor
