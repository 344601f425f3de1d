/- number.Multiply. -/
import Derived.Test.YtcdgckbdplkdbaaDoorNumD
namespace Go.Proofs.YtcdgckbdplkdbaaDoor
open Go.RowKit

theorem two_blocks (w : World) (T : TypeId) (u0 v0 u1 v1 : Value) :
    Hid (BlkIs ((w.alloc (.cells #[u0, v0] T)).alloc (.cells #[u1, v1] T)) w.heap.size T #[u0, v0]) ∧ Hid (BlkIs ((w.alloc (.cells #[u0, v0] T)).alloc (.cells #[u1, v1] T)) (w.heap.size + 1) T #[u1, v1]) ∧ Below w.heap.size w ((w.alloc (.cells #[u0, v0] T)).alloc (.cells #[u1, v1] T)) := by
  refine ⟨Lib.hid ((BlkIs.new w T _).alloc _), Lib.hid ?_, ((Below.refl _ _).alloc (Nat.le_refl _) _).alloc (by simp) _⟩
  have := BlkIs.new (w.alloc (.cells #[u0, v0] T)) T #[u1, v1]
  simpa using this

set_option maxHeartbeats 2000000 in
set_option maxRecDepth 100000 in
theorem mulN_any (a b : List UInt8) (w : World) (ha : a.length ≤ 1000000) (hb : b.length ≤ 1000000) (ht : Tab w) :
    Calls Tryd.prog 26 #[.string ⟨a.toArray⟩, .string ⟨b.toArray⟩] w (RetStr (Lib.itoa (Dec.dval a * Dec.dval b)) w) := by
  by_cases hs : (a.length : Int) ≤ 9 ∧ (b.length : Int) ≤ 9 ∧ Dec.isDec a = true ∧ Dec.isDec b = true
  · obtain ⟨h1, h2, h3, h4⟩ := hs
    have HS := Lib.hid (short_yes a b 9 w (by omega) h1 h2 h3 h4)
    have hba := dval_lt18 (l := a) (k := 9) (by omega)
    have hbb := dval_lt18 (l := b) (k := 9) (by omega)
    obtain ⟨m1, m2⟩ := mul9 hba hbb
    have HF : Hid (∀ w', Tab w' → Calls Tryd.prog 42 #[.int .i64 (Dec.dval a * Dec.dval b), .int .i64 10] w' fun e w'' => e = .returned (.string ⟨(Lib.itoa (Dec.dval a * Dec.dval b)).toArray⟩) ∧ Below w'.heap.size w' w'') := fun w' ht' => formatInt_any _ w' ht' (by omega) (by omega)
    clear h3 h4 hba hbb
    generalize Dec.dval a = x at *
    generalize Dec.dval b = y at *
    go_enter Tryd.func26, Tryd.ntmps26
    go_wp2_with fail
    refine HS.out.mono ?_
    rintro e w1 ⟨rfl, hb1⟩
    go_wp2_with fail
    refine (HF.out _ (ht.below hb1)).mono ?_
    rintro e w2 ⟨rfl, hb2⟩
    go_wp2
    go_ret
    exact ⟨rfl, hb1.trans (hb2.mono hb1.size)⟩
  · have HS := Lib.hid (short_no a b 9 w ha hb hs)
    have HP1 : Hid (∀ w', Calls Tryd.prog 43 #[.string ⟨a.toArray⟩] w' (RetInt (a.length + 1) (Dec.dval a) w')) := fun w' => parse_any a w' ha
    have HP2 : Hid (∀ w', Calls Tryd.prog 43 #[.string ⟨b.toArray⟩] w' (RetInt (b.length + 1) (Dec.dval b) w')) := fun w' => parse_any b w' hb
    clear hs
    generalize Dec.dval a = x at *
    generalize Dec.dval b = y at *
    have hms : (if (!(decide (x < 0) == decide (y < 0))) = true then -((x.natAbs * y.natAbs : Nat) : Int) else ((x.natAbs * y.natAbs : Nat) : Int)) = x * y := mul_sign x y
    obtain ⟨s, hsd⟩ : ∃ s, s = decide (x < 0) := ⟨_, rfl⟩
    obtain ⟨s', hsd'⟩ : ∃ s', s' = decide (y < 0) := ⟨_, rfl⟩
    rw [← hsd, ← hsd'] at hms
    have HSD := Lib.hid hsd
    have HSD' := Lib.hid hsd'
    clear hsd hsd'
    obtain ⟨z, hz⟩ : ∃ z, z = (!(s == s')) := ⟨_, rfl⟩
    rw [← hz] at hms
    have HMS := Lib.hid hms
    have hz' : (!(s == s')) = z := hz.symm
    clear hz hms
    go_enter Tryd.func26, Tryd.ntmps26
    go_wp2_with fail
    refine HS.out.mono ?_
    rintro e w' ⟨rfl, rfl⟩
    go_wp2_with fail
    refine (HP1.out _).mono ?_
    rintro e w1 ⟨A1, n1, c1, rfl, hs1, hn1, hb1⟩
    rw [← HSD.out]
    go_wp2_with fail
    refine (HP2.out _).mono ?_
    rintro e w2 ⟨A2, n2, c2, rfl, hs2, hn2, hb2⟩
    rw [← HSD'.out]
    have hbw2 := hb1.trans (hb2.mono hb1.size)
    go_wp2_with fail
    obtain ⟨B0, B1, hbW⟩ := two_blocks w2 56 (.bool s) (.slice A1 n1 c1) (.bool s') (.slice A2 n2 c2)
    generalize ((w2.alloc (.cells #[.bool s, .slice A1 n1 c1] 56)).alloc (.cells #[.bool s', .slice A2 n2 c2] 56)) = W at *
    have hbwW := hbw2.trans (hbW.mono hbw2.size)
    obtain ⟨p00, p01, _, _, l0⟩ := B0.out.two
    obtain ⟨p10, p11, _, _, l1⟩ := B1.out.two
    have hsA := (hs1.below hb2).below hbW
    have hsB := hs2.below hbW
    have hT := times_any A1 A2 n1 n2 c1 c2 _ _ W.drew hsA.drew1 hsB.drew1 (by omega) (by omega) (Dec.limbs_small (by omega) _) (Dec.limbs_small (by omega) _)
    rw [Dec.lval_limbs (by omega), Dec.lval_limbs (by omega)] at hT
    have HT := Lib.hid hT
    have hlm := length_limbs_mul hsA.len hsB.len
    clear hT
    go_region_held3 (fun w' => w'.cell? ⟨w2.heap.size, 0, none⟩ = some (.bool s) ∧ w'.cell? ⟨w2.heap.size, 1, none⟩ = some (.slice A1 n1 c1) ∧ w'.cell? ⟨w2.heap.size + 1, 0, none⟩ = some (.bool s') ∧ w'.cell? ⟨w2.heap.size + 1, 1, none⟩ = some (.slice A2 n2 c2)) (go_keep)
      (first | (go_at_call 44; refine HT.out.mono ?_; rintro e w3 ⟨A3, n3, c3, rfl, hs3, hb3, hf3⟩; obtain ⟨q00, q01, _, _, _⟩ := (B0.out.drew.below hb3).two; obtain ⟨q10, q11, _, _, _⟩ := (B1.out.drew.below hb3).two; have hbw3 := hbwW.drew.trans (hb3.mono hbwW.drew.size); have HS3 := Lib.hid (string_any z A3 n3 c3 (x.natAbs * y.natAbs) w3 hs3 (by rw [← hs3.len]; omega) (ht.below hbw3))) | (go_at_call 45; refine HS3.out.mono ?_; rintro e w4 ⟨rfl, hb4⟩; obtain ⟨t00, t01, _, _, _⟩ := ((B0.out.drew.below hb3).below hb4).two; obtain ⟨t10, t11, _, _, _⟩ := ((B1.out.drew.below hb3).below hb4).two))
    go_wp2
    go_ret
    exact ⟨by rw [← numStr_eq HMS.out]; rfl, hbw3.trans (hb4.mono hbw3.size)⟩
end Go.Proofs.YtcdgckbdplkdbaaDoor
