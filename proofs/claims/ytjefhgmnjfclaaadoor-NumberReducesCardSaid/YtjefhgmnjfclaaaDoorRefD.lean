/- lispproverref1.minus: the digits of the difference. -/
import Derived.Test.YtjefhgmnjfclaaaDoorRefC
namespace Go.Proofs.YtjefhgmnjfclaaaDoor
open Go.RowKit

set_option maxHeartbeats 2000000 in
theorem refMinus_any (A A' : Option Addr) (n n' c c' : Nat) (x y : List Nat) (w : World) (hx : Sl w .i64 A n c x) (hy : Sl w .i64 A' n' c' y) (hn : n ≤ 100000000) (hnn : n' ≤ n)
    (hsx : Dec.Small 10 x) (hsy : Dec.Small 10 y) (hle : Dec.lval 10 y ≤ Dec.lval 10 x) :
    Calls Tryd.prog 53 #[.slice A n c, .slice A' n' c'] w (RetSl .i64 (Dec.limbs 10 (Dec.lval 10 x - Dec.lval 10 y)) w) := by
  go_enter Tryd.func53, Tryd.ntmps53
  go_wp2
  go_loopw [5, 6, 7] (fun out br ix wr => ∃ (k : Nat) (A2 : Option Addr) (c2 : Nat) (o : List Nat) (bw : Nat), k ≤ n ∧ ix = .int .i64 k ∧ out = .slice A2 k c2 ∧ br = .int .i64 bw ∧ bw ≤ 1 ∧ Own wr w.heap.size 3 .i64 A2 k c2 o ∧ Dec.Small 10 o ∧ Hid (Dec.lval 10 (x.take k) + 10 ^ k * bw = Dec.lval 10 o + Dec.lval 10 (y.take k)) ∧ Below w.heap.size w wr) (fun _ _ ix _ => n - (intOf ix).toNat)
  case atStart => exact ⟨0, none, 0, [], 0, by omega, rfl, rfl, rfl, by omega, Own.nil _ _ _ _, Dec.Small.nil, Lib.hid (by simp [Dec.lval]), Below.refl _ _⟩
  case round =>
    obtain ⟨k, A2, c2, o, bw, hk, rfl, rfl, rfl, hbw, hown, hso, HV, hb⟩ := hrel
    have HO := Lib.hid hown.len
    by_cases hkn : k < n
    · obtain ⟨b, off, rfl, _, hcx⟩ := (hx.below hb).cells (by omega)
      have hcu := hcx k hkn
      clear hcx
      have hu := getD_lt (l := x) hsx (by omega) k
      have HR := fun d t => Lib.hid (Dec.minus_round (B := 10) (a := x) (b := y) (d := d) (n := t) HO.out HV.out)
      by_cases hkm : k < n'
      · obtain ⟨b', off', rfl, _, hcy'⟩ := (hy.below hb).cells (by omega)
        have hcv := hcy' k hkm
        clear hcy'
        have hv := getD_lt (l := y) hsy (by omega) k
        generalize x.getD k 0 = u at hcu hu HR
        generalize y.getD k 0 = v at hcv hv HR
        by_cases hneg : (u : Int) - bw - v < 0
        · have HR1 := Lib.hid ((HR 1 (u + 10 - bw - v)).out (by omega))
          clear HR
          go_wp2_with (at_builtin; refine wpList_app (w0 := w) rfl _ _ _ rfl 3 .i64 8 Tryd.underlying47 infoInt (by omega) _ _ _ o rfl hown _ (u + 10 - bw - v) (by omega) rfl (by omega) hb ?_; intro A3 c3 w2 hown2 hb2 _ _ _)
          go_roundw
          case rel => exact ⟨k + 1, A3, c3, o ++ [u + 10 - bw - v], 1, by omega, by go_num, rfl, rfl, by omega, hown2, hso.append (Dec.Small.cons (by omega) Dec.Small.nil), HR1, hb2⟩
          case measure => simp only [intOf]; omega
        · have HR1 := Lib.hid ((HR 0 (u - bw - v)).out (by omega))
          clear HR
          go_wp2_with (at_builtin; refine wpList_app (w0 := w) rfl _ _ _ rfl 3 .i64 8 Tryd.underlying47 infoInt (by omega) _ _ _ o rfl hown _ (u - bw - v) (by omega) rfl (by omega) hb ?_; intro A3 c3 w2 hown2 hb2 _ _ _)
          go_roundw
          case rel => exact ⟨k + 1, A3, c3, o ++ [u - bw - v], 0, by omega, by go_num, rfl, rfl, by omega, hown2, hso.append (Dec.Small.cons (by omega) Dec.Small.nil), HR1, hb2⟩
          case measure => simp only [intOf]; omega
      · have hv := getD_out hy.len hkm
        rw [hv] at HR
        clear hv
        generalize x.getD k 0 = u at hcu hu HR
        by_cases hneg : (u : Int) - bw < 0
        · have HR1 := Lib.hid ((HR 1 (u + 10 - bw)).out (by omega))
          clear HR
          go_wp2_with (at_builtin; refine wpList_app (w0 := w) rfl _ _ _ rfl 3 .i64 8 Tryd.underlying47 infoInt (by omega) _ _ _ o rfl hown _ (u + 10 - bw) (by omega) rfl (by omega) hb ?_; intro A3 c3 w2 hown2 hb2 _ _ _)
          go_roundw
          case rel => exact ⟨k + 1, A3, c3, o ++ [u + 10 - bw], 1, by omega, by go_num, rfl, rfl, by omega, hown2, hso.append (Dec.Small.cons (by omega) Dec.Small.nil), HR1, hb2⟩
          case measure => simp only [intOf]; omega
        · have HR1 := Lib.hid ((HR 0 (u - bw)).out (by omega))
          clear HR
          go_wp2_with (at_builtin; refine wpList_app (w0 := w) rfl _ _ _ rfl 3 .i64 8 Tryd.underlying47 infoInt (by omega) _ _ _ o rfl hown _ (u - bw) (by omega) rfl (by omega) hb ?_; intro A3 c3 w2 hown2 hb2 _ _ _)
          go_roundw
          case rel => exact ⟨k + 1, A3, c3, o ++ [u - bw], 0, by omega, by go_num, rfl, rfl, by omega, hown2, hso.append (Dec.Small.cons (by omega) Dec.Small.nil), HR1, hb2⟩
          case measure => simp only [intOf]; omega
    · have hkk : k = n := by omega
      subst hkk
      have HF : Hid (Dec.lval 10 o = Dec.lval 10 x - Dec.lval 10 y) := by
        have h := HV.out
        rw [List.take_of_length_le (by rw [hx.len]; omega), List.take_of_length_le (by rw [hy.len]; omega)] at h
        have hlt := Dec.lval_lt (B := 10) (by omega) hso
        rw [HO.out] at hlt
        show _ = _
        rcases Nat.eq_zero_or_pos bw with e | e
        · subst e; omega
        · obtain rfl : bw = 1 := by omega
          omega
      have hsl := hown.sl
      go_wp2_with fail
      refine (refTrim_any _ _ _ _ _ hsl (by omega)).mono ?_
      rintro e w' ⟨rfl, rfl⟩
      go_wp2
      go_ret
      refine ⟨_, _, _, rfl, ?_, hb, hown.fresh⟩
      have := hsl.trimmed (B := 10) (by omega) hso
      rw [HF.out] at this
      exact this
end Go.Proofs.YtjefhgmnjfclaaaDoor
