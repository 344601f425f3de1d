/- number.times: the limbs of the product. -/
import Derived.Test.YtcdgckbdplkdbaaDoorMinus
namespace Go.Proofs.YtcdgckbdplkdbaaDoor
open Go.RowKit

theorem getD_set_ne (l : List Nat) (i j v : Nat) (h : i ≠ j) : (l.set i v).getD j 0 = l.getD j 0 := by
  rw [List.getD_eq_getElem?_getD, List.getD_eq_getElem?_getD, List.getElem?_set_ne h]
theorem getD_replicate (n j : Nat) : (List.replicate n 0).getD j 0 = 0 := by
  rw [List.getD_eq_getElem?_getD, List.getElem?_replicate]; split <;> rfl
theorem lval_replicate (B n : Nat) : Dec.lval B (List.replicate n 0) = 0 := by
  induction n with
  | zero => rfl
  | succ n ih => rw [List.replicate_succ, Dec.lval, ih]; simp
theorem small_replicate (B n : Nat) (hB : 1 ≤ B) : Dec.Small B (List.replicate n 0) := by
  intro x hx
  rw [(List.mem_replicate.1 hx).2]; omega
theorem mul_bound {u v : Nat} (hu : u < 1000000000) (hv : v < 1000000000) : (0 : Int) ≤ (u : Int) * v ∧ (u : Int) * v ≤ 999999998000000001 := by
  have h : u * v ≤ 999999999 * 999999999 := Nat.mul_le_mul (by omega) (by omega)
  have e : ((u * v : Nat) : Int) = (u : Int) * v := by rw [Int.natCast_mul]
  omega
theorem cast_mod {z u v c : Nat} : ((z : Int) + (u : Int) * v + c) % 1000000000 = (((z + u * v + c) % 1000000000 : Nat) : Int) := by
  rw [Int.natCast_emod, Int.natCast_add, Int.natCast_add, Int.natCast_mul]; rfl
theorem cast_div {z u v c : Nat} : ((z : Int) + (u : Int) * v + c) / 1000000000 = (((z + u * v + c) / 1000000000 : Nat) : Int) := by
  rw [Int.natCast_ediv, Int.natCast_add, Int.natCast_add, Int.natCast_mul]; rfl

set_option maxHeartbeats 2000000 in
theorem times_any (A A' : Option Addr) (n n' c c' : Nat) (x y : List Nat) (w : World) (hx : Sl w .u32 A n c x) (hy : Sl w .u32 A' n' c' y) (hn : n ≤ 100000000) (hn' : n' ≤ 100000000)
    (hsx : Dec.Small 1000000000 x) (hsy : Dec.Small 1000000000 y) :
    Calls Tryd.prog 44 #[.slice A n c, .slice A' n' c'] w (RetSl .u32 (Dec.limbs 1000000000 (Dec.lval 1000000000 x * Dec.lval 1000000000 y)) w) := by
  go_enter Tryd.func44, Tryd.ntmps44
  go_wp2_with (at_make; refine wpList_mk (w0 := w) rfl _ _ _ rfl 67 .u32 4 Tryd.underlying54 infoU32 (by omega) _ _ _ _ (n + n') rfl rfl (by omega) (by omega) (by omega) (Below.refl _ _) ?_; intro w1 hown1 hb1 _ _)
  go_loopw [20] (fun ix wr => ∃ (k : Nat) (L : List Nat), k ≤ n ∧ ix = .int .i64 k ∧ Own wr w.heap.size 67 .u32 (some ⟨w.heap.size, 0, none⟩) (n + n') (n + n') L ∧ Dec.Small 1000000000 L ∧ Hid (Dec.lval 1000000000 L = Dec.lval 1000000000 (x.take k) * Dec.lval 1000000000 y) ∧ Hid (∀ j, k + n' ≤ j → L.getD j 0 = 0) ∧ Below w.heap.size w wr) (fun ix _ => n - (intOf ix).toNat)
  case atStart => exact ⟨0, _, Nat.zero_le _, rfl, hown1, small_replicate _ _ (by omega), (by rw [lval_replicate, List.take_zero]; simp [Dec.lval] : Dec.lval 1000000000 (List.replicate (n + n') 0) = Dec.lval 1000000000 (x.take 0) * Dec.lval 1000000000 y), (fun j _ => getD_replicate _ j : ∀ j, 0 + n' ≤ j → (List.replicate (n + n') 0).getD j 0 = 0), hb1⟩
  case round =>
    obtain ⟨k, L, hk, rfl, hown, hsL, HV, HZ, hb⟩ := hrel
    obtain ⟨wo, rfl⟩ : ∃ wo : World, wo = wr := ⟨_, rfl⟩
    by_cases hkn : k < n
    · obtain ⟨b, off, rfl, _, hcx⟩ := (hx.below hb).cells (by omega)
      have hcu := hcx k hkn
      clear hcx
      have hu := getD_lt (l := x) hsx (by omega) k
      have HT := Lib.hid (Dec.times_outer (B := 1000000000) (a := x) (b := y) (i := k) HV.out)
      generalize x.getD k 0 = u at hcu hu HT
      go_wp2
      go_loopw [8, 27] (fun cr jx wr => ∃ (m cy : Nat) (M : List Nat), m ≤ n' ∧ jx = .int .i64 m ∧ cr = .int .u64 cy ∧ cy < 1000000000 ∧ Own wr w.heap.size 67 .u32 (some ⟨w.heap.size, 0, none⟩) (n + n') (n + n') M ∧ Dec.Small 1000000000 M ∧ Hid (Dec.lval 1000000000 M + 1000000000 ^ (k + m) * cy = Dec.lval 1000000000 L + 1000000000 ^ k * (u * Dec.lval 1000000000 (y.take m))) ∧ Hid (∀ j, k + n' ≤ j → M.getD j 0 = 0) ∧ Below w.heap.size w wr) (fun _ jx _ => n' - (intOf jx).toNat)
      case atStart => exact ⟨0, 0, L, Nat.zero_le _, rfl, rfl, by omega, hown, hsL, (by simp [Dec.lval] : Dec.lval 1000000000 L + 1000000000 ^ (k + 0) * 0 = Dec.lval 1000000000 L + 1000000000 ^ k * (u * Dec.lval 1000000000 (y.take 0))), HZ, hb⟩
      case round =>
        obtain ⟨m, cy, M, hm, rfl, rfl, hcy, hownM, hsM, HM, HZM, hbM⟩ := hrel
        by_cases hmn : m < n'
        · obtain ⟨b', off', rfl, _, hcy'⟩ := (hy.below hbM).cells (by omega)
          have hcv := hcy' m hmn
          clear hcy'
          have hv := getD_lt (l := y) hsy (by omega) m
          have hlM := hownM.len
          obtain ⟨hco, hfo, _, hgl⟩ := hownM.cellAt (i := k + m) (by omega)
          have hz := getD_lt (l := M) hsM (by omega) (k + m)
          have HR := Lib.hid (Dec.times_round (B := 1000000000) (o := M) (b := y) (x := u) (i := k) (j := m) (by omega) HM.out rfl rfl)
          clear hlM
          generalize M.getD (k + m) 0 = z at hco hz HR
          generalize y.getD m 0 = v at hcv hv HR
          obtain ⟨hp1, hp2⟩ := mul_bound hu hv
          have hfit := Dec.times_fits (B := 1000000000) (by omega) hz hu hv hcy
          go_wp2
          go_roundw
          case rel =>
            refine ⟨m + 1, (z + u * v + cy) / 1000000000, M.set (k + m) ((z + u * v + cy) % 1000000000), by omega, by go_num, ?_, by omega, hownM.setInt ?_ rfl, hsM.set (by omega), HR.out, (fun j hj => by rw [getD_set_ne _ _ _ _ (by omega)]; exact HZM.out j hj : ∀ j, k + n' ≤ j → (M.set (k + m) ((z + u * v + cy) % 1000000000)).getD j 0 = 0), hbM.setCell (p := ⟨w.heap.size, k + m, none⟩) (Nat.le_refl _) _⟩
            · rw [cast_div]
            · rw [cast_mod]
          case measure => simp only [intOf]; omega
        · have hmm : m = n' := by omega
          subst hmm
          obtain ⟨hco, hfo, _, hgl⟩ := hownM.cellAt (i := k + m) (by omega)
          have HR : Hid (Dec.lval 1000000000 (M.set (k + m) cy) = Dec.lval 1000000000 (x.take (k + 1)) * Dec.lval 1000000000 y) := by
            have hly := hy.len
            subst hly
            exact (Dec.times_row (by rw [hownM.len]; omega) (HZM.out _ (Nat.le_refl _)) HM.out).trans HT.out
          generalize M.getD (k + m) 0 = z at hco
          go_wp2
          go_roundw
          case rel => exact ⟨k + 1, M.set (k + m) cy, by omega, by go_num, hownM.setInt (by omega) rfl, hsM.set hcy, HR.out, (fun j hj => by rw [getD_set_ne _ _ _ _ (by omega)]; exact HZM.out j (by omega) : ∀ j, k + 1 + m ≤ j → (M.set (k + m) cy).getD j 0 = 0), hbM.setCell (p := ⟨w.heap.size, k + m, none⟩) (Nat.le_refl _) _⟩
          case measure => simp only [intOf]; omega
    · have hkk : k = n := by omega
      subst hkk
      have hsl := hown.sl
      go_wp2_with fail
      refine (trim_any _ _ _ _ _ hsl (by omega)).mono ?_
      rintro e w' ⟨rfl, rfl⟩
      go_wp2
      go_ret
      refine ⟨_, _, _, rfl, ?_, hb, hown.fresh⟩
      have := hsl.trimmed (B := 1000000000) (by omega) hsL
      rw [HV.out, List.take_of_length_le (by rw [hx.len]; omega)] at this
      exact this
end Go.Proofs.YtcdgckbdplkdbaaDoor
