/- number.minus: the limbs of the difference. -/
import Derived.Test.YtcdgckbdplkdbaaDoorPlus
namespace Go.Proofs.YtcdgckbdplkdbaaDoor
open Go.RowKit

set_option maxHeartbeats 1000000 in
theorem minus_any (A A' : Option Addr) (n n' c c' : Nat) (x y : List Nat) (w : World) (hx : Sl w .u32 A n c x) (hy : Sl w .u32 A' n' c' y) (hn : n ≤ 100000000) (hnn : n' ≤ n)
    (hsx : Dec.Small 1000000000 x) (hsy : Dec.Small 1000000000 y) (hle : Dec.lval 1000000000 y ≤ Dec.lval 1000000000 x) :
    Calls Tryd.prog 55 #[.slice A n c, .slice A' n' c'] w (RetSl .u32 (Dec.limbs 1000000000 (Dec.lval 1000000000 x - Dec.lval 1000000000 y)) w) := by
  go_enter Tryd.func55, Tryd.ntmps55
  go_wp2_with (at_make; refine wpList_mk (w0 := w) rfl _ _ _ rfl 67 .u32 4 Tryd.underlying54 infoU32 (by omega) _ _ _ _ n rfl rfl (by omega) (by omega) (by omega) (Below.refl _ _) ?_; intro w1 hown1 hb1 _ _)
  go_loopw [6, 14] (fun br ix wr => ∃ (k : Nat) (o : List Nat) (bw : Nat), k ≤ n ∧ ix = .int .i64 k ∧ br = .int .i64 bw ∧ bw ≤ 1 ∧ Own wr w.heap.size 67 .u32 (some ⟨w.heap.size, 0, none⟩) n n (o ++ List.replicate (n - k) 0) ∧ Hid (o.length = k) ∧ Dec.Small 1000000000 o ∧ Hid (Dec.lval 1000000000 (x.take k) + 1000000000 ^ k * bw = Dec.lval 1000000000 o + Dec.lval 1000000000 (y.take k)) ∧ Below w.heap.size w wr) (fun _ ix _ => n - (intOf ix).toNat)
  case atStart => exact ⟨0, [], 0, Nat.zero_le _, rfl, rfl, by omega, hown1, (rfl : ([] : List Nat).length = 0), Dec.Small.nil, (by simp [Dec.lval] : Dec.lval 1000000000 (x.take 0) + 1000000000 ^ 0 * 0 = Dec.lval 1000000000 [] + Dec.lval 1000000000 (y.take 0)), hb1⟩
  case round =>
    obtain ⟨k, o, bw, hk, rfl, rfl, hbw, hown, HO, hso, HV, hb⟩ := hrel
    by_cases hkn : k < n
    · obtain ⟨b, off, rfl, _, hcx⟩ := (hx.below hb).cells (by omega)
      have hcu := hcx k hkn
      clear hcx
      have hu := getD_lt (l := x) hsx (by omega) k
      obtain ⟨hco, hfo, _, hgl⟩ := hown.cellAt hkn
      generalize (o ++ List.replicate (n - k) 0).getD k 0 = z at hco
      by_cases hkm : k < n'
      · obtain ⟨b', off', rfl, _, hcy'⟩ := (hy.below hb).cells (by omega)
        have hcv := hcy' k hkm
        clear hcy'
        have hv := getD_lt (l := y) hsy (by omega) k
        have HR := fun d t => Lib.hid (Dec.minus_round (B := 1000000000) (a := x) (b := y) (d := d) (n := t) HO.out HV.out)
        generalize x.getD k 0 = u at hcu hu HR
        generalize y.getD k 0 = v at hcv hv HR
        by_cases hneg : (u : Int) - bw - v < 0
        · have HR1 := Lib.hid ((HR 1 (u + 1000000000 - bw - v)).out (by omega))
          clear HR
          go_wp2
          go_roundw
          case rel => exact ⟨k + 1, o ++ [u + 1000000000 - bw - v], 1, by omega, by go_num, rfl, by omega, hown.setInt (by omega) (set_replicate o n k _ hkn HO.out), (by rw [List.length_append, HO.out]; rfl : (o ++ [u + 1000000000 - bw - v]).length = k + 1), hso.append (Dec.Small.cons (by omega) Dec.Small.nil), HR1.out, hb.setCell (p := ⟨w.heap.size, k, none⟩) (Nat.le_refl _) _⟩
          case measure => simp only [intOf]; omega
        · have HR1 := Lib.hid ((HR 0 (u - bw - v)).out (by omega))
          clear HR
          go_wp2
          go_roundw
          case rel => exact ⟨k + 1, o ++ [u - bw - v], 0, by omega, by go_num, rfl, by omega, hown.setInt (by omega) (set_replicate o n k _ hkn HO.out), (by rw [List.length_append, HO.out]; rfl : (o ++ [u - bw - v]).length = k + 1), hso.append (Dec.Small.cons (by omega) Dec.Small.nil), HR1.out, hb.setCell (p := ⟨w.heap.size, k, none⟩) (Nat.le_refl _) _⟩
          case measure => simp only [intOf]; omega
      · have hv : y.getD k 0 = 0 := by
          have := hy.len
          rw [List.getD_eq_getElem?_getD, List.getElem?_eq_none (by omega)]; rfl
        have HR := fun d t => Lib.hid (Dec.minus_round (B := 1000000000) (a := x) (b := y) (d := d) (n := t) HO.out HV.out)
        rw [hv] at HR
        clear hv
        generalize x.getD k 0 = u at hcu hu HR
        by_cases hneg : (u : Int) - bw < 0
        · have HR1 := Lib.hid ((HR 1 (u + 1000000000 - bw)).out (by omega))
          clear HR
          go_wp2
          go_roundw
          case rel => exact ⟨k + 1, o ++ [u + 1000000000 - bw], 1, by omega, by go_num, rfl, by omega, hown.setInt (by omega) (set_replicate o n k _ hkn HO.out), (by rw [List.length_append, HO.out]; rfl : (o ++ [u + 1000000000 - bw]).length = k + 1), hso.append (Dec.Small.cons (by omega) Dec.Small.nil), HR1.out, hb.setCell (p := ⟨w.heap.size, k, none⟩) (Nat.le_refl _) _⟩
          case measure => simp only [intOf]; omega
        · have HR1 := Lib.hid ((HR 0 (u - bw)).out (by omega))
          clear HR
          go_wp2
          go_roundw
          case rel => exact ⟨k + 1, o ++ [u - bw], 0, by omega, by go_num, rfl, by omega, hown.setInt (by omega) (set_replicate o n k _ hkn HO.out), (by rw [List.length_append, HO.out]; rfl : (o ++ [u - bw]).length = k + 1), hso.append (Dec.Small.cons (by omega) Dec.Small.nil), HR1.out, hb.setCell (p := ⟨w.heap.size, k, none⟩) (Nat.le_refl _) _⟩
          case measure => simp only [intOf]; omega
    · have hkk : k = n := by omega
      subst hkk
      have hfin : Dec.lval 1000000000 o = Dec.lval 1000000000 x - Dec.lval 1000000000 y := by
        have h := HV.out
        rw [List.take_of_length_le (by rw [hx.len]; omega), List.take_of_length_le (by rw [hy.len]; omega)] at h
        have hlt := Dec.lval_lt (B := 1000000000) (by omega) hso
        rw [HO.out] at hlt
        rcases Nat.eq_zero_or_pos bw with e | e
        · subst e; omega
        · obtain rfl : bw = 1 := by omega
          omega
      have HF := Lib.hid hfin
      clear hfin
      have hsl := hown.sl
      rw [Nat.sub_self] at hsl
      simp only [List.replicate_zero, List.append_nil] at hsl
      go_wp2_with fail
      refine (trim_any _ _ _ _ _ hsl (by omega)).mono ?_
      rintro e w' ⟨rfl, rfl⟩
      go_wp2
      go_ret
      refine ⟨_, _, _, rfl, ?_, hb, hown.fresh⟩
      have := hsl.trimmed (B := 1000000000) (by omega) hso
      rw [HF.out] at this
      exact this
end Go.Proofs.YtcdgckbdplkdbaaDoor
