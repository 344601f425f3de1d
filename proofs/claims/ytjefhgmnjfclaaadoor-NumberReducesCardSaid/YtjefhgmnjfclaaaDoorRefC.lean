/- lispproverref1.plus and minus: digits of the sum and of the difference. -/
import Derived.Test.YtjefhgmnjfclaaaDoorRefB
namespace Go.Proofs.YtjefhgmnjfclaaaDoor
open Go.RowKit

/-- a call hands back digits of the value v, zeros at the end let in -/
def RetSm (K v : Nat) (w : World) (e : Ending) (w' : World) : Prop := ∃ A n c o, e = .returned (.slice A n c) ∧ n ≤ K ∧ Sl w' .i64 A n c o ∧ Dec.Small 10 o ∧ Dec.lval 10 o = v ∧ Below w.heap.size w w' ∧ ∀ b o, A = some ⟨b, o, none⟩ → w.heap.size ≤ b
theorem getD_out {l : List Nat} {k n : Nat} (h : l.length = n) (hk : ¬ k < n) : l.getD k 0 = 0 := by
  rw [List.getD_eq_getElem?_getD, List.getElem?_eq_none (by omega)]; rfl

set_option maxHeartbeats 2000000 in
theorem refPlus_any (A A' : Option Addr) (n n' c c' : Nat) (x y : List Nat) (w : World) (hx : Sl w .i64 A n c x) (hy : Sl w .i64 A' n' c' y) (hn : n ≤ 100000000) (hn' : n' ≤ 100000000)
    (hsx : Dec.Small 10 x) (hsy : Dec.Small 10 y) :
    Calls Tryd.prog 52 #[.slice A n c, .slice A' n' c'] w (RetSm (max n n' + 1) (Dec.lval 10 x + Dec.lval 10 y) w) := by
  go_enter Tryd.func52, Tryd.ntmps52
  go_wp2
  go_loopg [5, 6, 7] (2 * max n n') (fun gx out cr ix wr => ∃ (k : Nat) (A2 : Option Addr) (c2 : Nat) (o : List Nat) (cy : Nat), k + cy ≤ max n n' + 1 ∧ ix = .int .i64 k ∧ out = .slice A2 k c2 ∧ cr = .int .i64 cy ∧ cy ≤ 1 ∧ Own wr w.heap.size 3 .i64 A2 k c2 o ∧ Dec.Small 10 o ∧ Hid (Dec.lval 10 o + 10 ^ k * cy = Dec.lval 10 (x.take k) + Dec.lval 10 (y.take k)) ∧ Below w.heap.size w wr ∧ 2 * (max n n' - k) + cy ≤ gx)
  case atStart => exact ⟨0, none, 0, [], 0, by omega, rfl, rfl, rfl, by omega, Own.nil _ _ _ _, Dec.Small.nil, Lib.hid (by simp [Dec.lval]), Below.refl _ _, by omega⟩
  case round =>
    obtain ⟨k, A2, c2, o, cy, hk, rfl, rfl, rfl, hcy, hown, hso, HV, hb, hg⟩ := hrel
    have HO := Lib.hid hown.len
    by_cases hkn : k < n
    · obtain ⟨b, off, rfl, _, hcx⟩ := (hx.below hb).cells (by omega)
      have hcu := hcx k hkn
      clear hcx
      have hu := getD_lt (l := x) hsx (by omega) k
      by_cases hkm : k < n'
      · obtain ⟨b', off', rfl, _, hcy'⟩ := (hy.below hb).cells (by omega)
        have hcv := hcy' k hkm
        clear hcy'
        have hv := getD_lt (l := y) hsy (by omega) k
        have HR := Lib.hid (Dec.plus_round (B := 10) (a := x) (b := y) (n := cy + x.getD k 0 + y.getD k 0) HO.out HV.out (by omega))
        generalize x.getD k 0 = u at hcu hu HR
        generalize y.getD k 0 = v at hcv hv HR
        go_wp2_with (at_builtin; refine wpList_app (w0 := w) rfl _ _ _ rfl 3 .i64 8 Tryd.underlying47 infoInt (by omega) _ _ _ o rfl hown _ ((cy + u + v) % 10) (by omega) rfl (by omega) hb ?_; intro A3 c3 w2 hown2 hb2 _ _ _)
        go_roundg (2 * (max n n' - (k + 1)) + (cy + u + v) / 10)
        case measure => omega
        case rel => exact ⟨k + 1, A3, c3, o ++ [(cy + u + v) % 10], (cy + u + v) / 10, by omega, by go_num, rfl, by go_num, by omega, hown2, hso.append (Dec.Small.cons (by omega) Dec.Small.nil), HR, hb2, Nat.le_refl _⟩
      · have hv := getD_out hy.len hkm
        have HR := Lib.hid (Dec.plus_round (B := 10) (a := x) (b := y) (n := cy + x.getD k 0) HO.out HV.out (by omega))
        clear hv
        generalize x.getD k 0 = u at hcu hu HR
        go_wp2_with (at_builtin; refine wpList_app (w0 := w) rfl _ _ _ rfl 3 .i64 8 Tryd.underlying47 infoInt (by omega) _ _ _ o rfl hown _ ((cy + u) % 10) (by omega) rfl (by omega) hb ?_; intro A3 c3 w2 hown2 hb2 _ _ _)
        go_roundg (2 * (max n n' - (k + 1)) + (cy + u) / 10)
        case measure => omega
        case rel => exact ⟨k + 1, A3, c3, o ++ [(cy + u) % 10], (cy + u) / 10, by omega, by go_num, rfl, by go_num, by omega, hown2, hso.append (Dec.Small.cons (by omega) Dec.Small.nil), HR, hb2, Nat.le_refl _⟩
    · have hu := getD_out hx.len hkn
      by_cases hkm : k < n'
      · obtain ⟨b', off', rfl, _, hcy'⟩ := (hy.below hb).cells (by omega)
        have hcv := hcy' k hkm
        clear hcy'
        have hv := getD_lt (l := y) hsy (by omega) k
        have HR := Lib.hid (Dec.plus_round (B := 10) (a := x) (b := y) (n := cy + y.getD k 0) HO.out HV.out (by omega))
        clear hu
        generalize y.getD k 0 = v at hcv hv HR
        go_wp2_with (at_builtin; refine wpList_app (w0 := w) rfl _ _ _ rfl 3 .i64 8 Tryd.underlying47 infoInt (by omega) _ _ _ o rfl hown _ ((cy + v) % 10) (by omega) rfl (by omega) hb ?_; intro A3 c3 w2 hown2 hb2 _ _ _)
        go_roundg (2 * (max n n' - (k + 1)) + (cy + v) / 10)
        case measure => omega
        case rel => exact ⟨k + 1, A3, c3, o ++ [(cy + v) % 10], (cy + v) / 10, by omega, by go_num, rfl, by go_num, by omega, hown2, hso.append (Dec.Small.cons (by omega) Dec.Small.nil), HR, hb2, Nat.le_refl _⟩
      · have hv := getD_out hy.len hkm
        have HR := Lib.hid (Dec.plus_round (B := 10) (a := x) (b := y) (n := cy) HO.out HV.out (by omega))
        clear hu hv
        have HX : Hid (x.take k = x) := Lib.hid (List.take_of_length_le (by rw [hx.len]; omega))
        have HY : Hid (y.take k = y) := Lib.hid (List.take_of_length_le (by rw [hy.len]; omega))
        by_cases hc0 : 0 < cy
        · obtain rfl : cy = 1 := by omega
          have HF : Hid (Dec.lval 10 (o ++ [1 % 10]) + 10 ^ (k + 1) * (1 / 10) = Dec.lval 10 (x.take (k + 1)) + Dec.lval 10 (y.take (k + 1))) := HR
          go_wp2_with (at_builtin; refine wpList_app (w0 := w) rfl _ _ _ rfl 3 .i64 8 Tryd.underlying47 infoInt (by omega) _ _ _ o rfl hown _ 1 (by omega) rfl (by omega) hb ?_; intro A3 c3 w2 hown2 hb2 _ _ _)
          go_roundg 0
          case measure => omega
          case rel => exact ⟨k + 1, A3, c3, o ++ [1], 0, by omega, by go_num, rfl, rfl, by omega, hown2, hso.append (Dec.Small.cons (by omega) Dec.Small.nil), HF, hb2, by omega⟩
        · obtain rfl : cy = 0 := by omega
          have HF : Hid (Dec.lval 10 o = Dec.lval 10 x + Dec.lval 10 y) := by
            have h := HV.out
            rw [HX.out, HY.out] at h
            show _ = _
            omega
          go_wp2
          go_ret
          exact ⟨A2, k, c2, o, rfl, by omega, hown.sl, hso, HF.out, hb, hown.fresh⟩
end Go.Proofs.YtjefhgmnjfclaaaDoor
