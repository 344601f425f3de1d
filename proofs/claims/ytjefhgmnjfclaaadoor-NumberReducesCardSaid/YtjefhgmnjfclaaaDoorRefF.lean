/- lispproverref1.times: the digits of the product. -/
import Derived.Test.YtjefhgmnjfclaaaDoorRefD
import Derived.IntWalk
import Derived.Deep.QuietTactic
import Derived.BigQuiet
import Derived.Deep.DeepCutAuto
namespace Go.Proofs.YtjefhgmnjfclaaaDoor
open Go.RowKit

theorem digit_mul {u v : Nat} (hu : u < 10) (hv : v < 10) : (0 : Int) ≤ (u : Int) * v ∧ (u : Int) * v ≤ 81 := by
  have h : u * v ≤ 9 * 9 := Nat.mul_le_mul (by omega) (by omega)
  have e : ((u * v : Nat) : Int) = (u : Int) * v := by rw [Int.natCast_mul]
  omega
theorem cast_mod10 {z u v c : Nat} : ((z : Int) + c + (u : Int) * v) % 10 = (((z + u * v + c) % 10 : Nat) : Int) := by
  rw [Int.natCast_emod, Int.natCast_add, Int.natCast_add, Int.natCast_mul]
  congr 1; omega
theorem cast_div10 {z u v c : Nat} : ((z : Int) + c + (u : Int) * v) / 10 = (((z + u * v + c) / 10 : Nat) : Int) := by
  rw [Int.natCast_ediv, Int.natCast_add, Int.natCast_add, Int.natCast_mul]
  congr 1; omega

set_option maxHeartbeats 2000000 in
theorem refTimes_any (A A' : Option Addr) (n n' c c' : Nat) (x y : List Nat) (w : World) (hx : Sl w .i64 A n c x) (hy : Sl w .i64 A' n' c' y) (hn : n ≤ 100000000) (hn' : n' ≤ 100000000)
    (hsx : Dec.Small 10 x) (hsy : Dec.Small 10 y) :
    Calls Tryd.prog 46 #[.slice A n c, .slice A' n' c'] w (RetSl .i64 (Dec.limbs 10 (Dec.lval 10 x * Dec.lval 10 y)) w) := by
  go_enter Tryd.func46, Tryd.ntmps46
  go_wp2_with (at_make; refine wpList_mk (w0 := w) rfl _ _ _ rfl 3 .i64 8 Tryd.underlying47 infoInt (by omega) _ _ _ _ (n + n' + 1) rfl rfl (by omega) (by omega) (by omega) (Below.refl _ _) ?_; intro w1 hown1 hb1 _ _)
  go_loopw [6] (fun ix wr => ∃ (k : Nat) (L : List Nat), k ≤ n ∧ ix = .int .i64 k ∧ Own wr w.heap.size 3 .i64 (some ⟨w.heap.size, 0, none⟩) (n + n' + 1) (n + n' + 1) L ∧ Dec.Small 10 L ∧ Hid (Dec.lval 10 L = Dec.lval 10 (x.take k) * Dec.lval 10 y) ∧ Hid (∀ j, k + n' ≤ j → L.getD j 0 = 0) ∧ Below w.heap.size w wr) (fun ix _ => n - (intOf ix).toNat)
  case atStart => exact ⟨0, _, Nat.zero_le _, rfl, hown1, small_replicate _ _ (by omega), (by rw [lval_replicate, List.take_zero]; simp [Dec.lval] : Dec.lval 10 (List.replicate (n + n' + 1) 0) = Dec.lval 10 (x.take 0) * Dec.lval 10 y), (fun j _ => getD_replicate _ j : ∀ j, 0 + n' ≤ j → (List.replicate (n + n' + 1) 0).getD j 0 = 0), hb1⟩
  case round =>
    obtain ⟨k, L, hk, rfl, hown, hsL, HV, HZ, hb⟩ := hrel
    obtain ⟨wo, rfl⟩ : ∃ wo : World, wo = wr := ⟨_, rfl⟩
    by_cases hkn : k < n
    · obtain ⟨b, off, rfl, _, hcx⟩ := hx.cells (by omega)
      clear hcx
      have hu := getD_lt (l := x) hsx (by omega) k
      have HT := Lib.hid (Dec.times_outer (B := 10) (a := x) (b := y) (i := k) HV.out)
      generalize hu0 : x.getD k 0 = u at hu HT
      have HU0 := Lib.hid hu0
      clear hu0
      go_wp2
      go_loopw [7, 8] (fun cr jx wr => ∃ (m cy : Nat) (M : List Nat), m ≤ n' + 1 ∧ jx = .int .i64 m ∧ cr = .int .i64 cy ∧ cy < 10 ∧ (m = n' + 1 → cy = 0) ∧ Own wr w.heap.size 3 .i64 (some ⟨w.heap.size, 0, none⟩) (n + n' + 1) (n + n' + 1) M ∧ Dec.Small 10 M ∧ Hid (Dec.lval 10 M + 10 ^ (k + m) * cy = Dec.lval 10 L + 10 ^ k * (u * Dec.lval 10 (y.take m))) ∧ Hid (∀ j, k + n' ≤ j → k + m ≤ j → M.getD j 0 = 0) ∧ Below w.heap.size w wr) (fun _ jx _ => n' + 1 - (intOf jx).toNat)
      case atStart => exact ⟨0, 0, L, Nat.zero_le _, rfl, rfl, by omega, by omega, hown, hsL, (by simp [Dec.lval] : Dec.lval 10 L + 10 ^ (k + 0) * 0 = Dec.lval 10 L + 10 ^ k * (u * Dec.lval 10 (y.take 0))), (fun j hj _ => HZ.out j hj : ∀ j, k + n' ≤ j → k + 0 ≤ j → L.getD j 0 = 0), hb⟩
      case round =>
        obtain ⟨m, cy, M, hm, rfl, rfl, hcy, hmc, hownM, hsM, HM, HZM, hbM⟩ := hrel
        have HMC := Lib.hid hmc
        clear hmc
        have HLM := Lib.hid hownM.len
        by_cases hmn : m < n'
        · obtain ⟨b', off', rfl, _, hcy'⟩ := (hy.below hbM).cells (by omega)
          have hcv := hcy' m hmn
          clear hcy'
          obtain ⟨b2, off2, e2, _, hcx⟩ := (hx.below hbM).cells (by omega)
          have hcu := hcx k hkn
          rw [HU0.out] at hcu
          injection e2 with e2
          injection e2 with e21 e22
          subst e21 e22
          clear hcx
          have hv := getD_lt (l := y) hsy (by omega) m
          obtain ⟨hco, hfo, _, hgl⟩ := hownM.cellAt (i := k + m) (by omega)
          have hz := getD_lt (l := M) hsM (by omega) (k + m)
          have HR := Lib.hid (Dec.times_round (B := 10) (o := M) (b := y) (x := u) (i := k) (j := m) (by rw [HLM.out]; omega) HM.out rfl rfl)
          generalize M.getD (k + m) 0 = z at hco hz HR
          generalize y.getD m 0 = v at hcv hv HR
          obtain ⟨hp1, hp2⟩ := digit_mul hu hv
          have hfit := Dec.times_fits (B := 10) (by omega) hz hu hv hcy
          have v1 : IntKind.i64.wrap ((u : Int) * v) = (u : Int) * v := IntWalk.i64_in _ (by omega)
          have v2 : IntKind.i64.wrap ((z : Int) + cy + (u : Int) * v) = (z : Int) + cy + (u : Int) * v := IntWalk.i64_in _ (by omega)
          go_upto_region 11 with (fail)
          go_quiet (fail)
          clear v1 v2
          go_wp2
          go_roundw
          case rel =>
            refine ⟨m + 1, (z + u * v + cy) / 10, M.set (k + m) ((z + u * v + cy) % 10), by omega, by go_num, ?_, by omega, by omega, (hownM.drewN _).setInt ?_ rfl, hsM.set (by omega), HR.out, (fun j hj hj2 => by rw [getD_set_ne _ _ _ _ (by omega)]; exact HZM.out j hj (by omega) : ∀ j, k + n' ≤ j → k + (m + 1) ≤ j → (M.set (k + m) ((z + u * v + cy) % 10)).getD j 0 = 0), (below_drewN hbM _).setCell (p := ⟨w.heap.size, k + m, none⟩) (Nat.le_refl _) _⟩
            · rw [cast_div10]
            · rw [cast_mod10]
          case measure => simp only [intOf]; omega
        · by_cases hc0 : 0 < cy
          · have hmm : m = n' := by
              rcases Nat.lt_or_ge n' m with h | h
              · have := HMC.out (by omega); omega
              · omega
            subst hmm
            obtain ⟨hco, hfo, _, hgl⟩ := hownM.cellAt (i := k + m) (by omega)
            have HR : Hid (Dec.lval 10 (M.set (k + m) cy) + 10 ^ (k + (m + 1)) * 0 = Dec.lval 10 L + 10 ^ k * (u * Dec.lval 10 (y.take (m + 1)))) := by
              have hly := hy.len
              subst hly
              have h := Dec.times_row (B := 10) (s := Dec.lval 10 L) (by rw [HLM.out]; omega) (HZM.out _ (Nat.le_refl _) (Nat.le_refl _)) HM.out
              show _ = _
              rw [List.take_of_length_le (by omega), Nat.mul_zero, Nat.add_zero]
              exact h
            rw [HZM.out _ (Nat.le_refl _) (Nat.le_refl _)] at hco
            go_wp2
            go_roundw
            case rel =>
              refine ⟨m + 1, 0, M.set (k + m) cy, by omega, by go_num, ?_, by omega, fun _ => rfl, hownM.setInt ?_ rfl, hsM.set hcy, HR.out, (fun j hj hj2 => by rw [getD_set_ne _ _ _ _ (by omega)]; exact HZM.out j hj (by omega) : ∀ j, k + m ≤ j → k + (m + 1) ≤ j → (M.set (k + m) cy).getD j 0 = 0), hbM.setCell (p := ⟨w.heap.size, k + m, none⟩) (Nat.le_refl _) _⟩
              · congr 1; omega
              · omega
            case measure => simp only [intOf]; omega
          · have hcz : cy = 0 := by omega
            subst hcz
            have HR : Hid (Dec.lval 10 M = Dec.lval 10 (x.take (k + 1)) * Dec.lval 10 y) := by
              have h := HM.out
              rw [List.take_of_length_le (by rw [hy.len]; omega), Nat.mul_zero, Nat.add_zero] at h
              exact h.trans HT.out
            go_wp2
            go_roundw
            case rel => exact ⟨k + 1, M, by omega, by go_num, hownM, hsM, HR.out, (fun j hj => HZM.out j (by omega) (by omega) : ∀ j, k + 1 + n' ≤ j → M.getD j 0 = 0), hbM⟩
            case measure => simp only [intOf]; omega
    · have hkk : k = n := by omega
      subst hkk
      have hsl := hown.sl
      go_wp2_with fail
      refine (refTrim_any _ _ _ _ _ hsl (by omega)).mono ?_
      rintro e w' ⟨rfl, rfl⟩
      go_wp2
      go_ret
      refine ⟨_, _, _, rfl, ?_, hb, hown.fresh⟩
      have := hsl.trimmed (B := 10) (by omega) hsL
      rw [HV.out, List.take_of_length_le (by rw [hx.len]; omega)] at this
      exact this
end Go.Proofs.YtjefhgmnjfclaaaDoor
