/- number.plus: the limbs of the sum. -/
import Derived.Test.YtcdgckbdplkdbaaDoorTrim
import Derived.Test.YtcdgckbdplkdbaaDoorOwn
namespace Go.Proofs.YtcdgckbdplkdbaaDoor
open Go.RowKit

theorem infoU32 : (Tryd.prog.info? 67).map (fun i => (i.zero, i.size, i.bytes)) = some (some (.int .u32 0), 1, 4) := by kernel_rfl
theorem getD_lt {B : Nat} {l : List Nat} (hs : Dec.Small B l) (hB : 1 ≤ B) (k : Nat) : l.getD k 0 < B := hs.getD hB k

set_option maxHeartbeats 1000000 in
theorem plus_le (A A' : Option Addr) (n n' c c' : Nat) (x y : List Nat) (w : World) (hx : Sl w .u32 A n c x) (hy : Sl w .u32 A' n' c' y) (hn : n ≤ 100000000) (hn' : n' ≤ 100000000)
    (hsx : Dec.Small 1000000000 x) (hsy : Dec.Small 1000000000 y) (hlt : ¬ n < n') :
    Calls Tryd.prog 54 #[.slice A n c, .slice A' n' c'] w (RetSl .u32 (Dec.limbs 1000000000 (Dec.lval 1000000000 x + Dec.lval 1000000000 y)) w) := by
  go_enter Tryd.func54, Tryd.ntmps54
  go_wp2_with (at_make; refine wpList_mk0 (w0 := w) rfl _ _ _ rfl 67 .u32 4 Tryd.underlying54 infoU32 (by omega) _ _ _ (n + 1) rfl rfl (by omega) (by omega) (Below.refl _ _) ?_; intro w1 hown1 hb1 _ _)
  go_loopw [5, 6, 22] (fun out cr ix wr => ∃ (k : Nat) (A2 : Option Addr) (c2 : Nat) (o : List Nat) (cy : Nat), k ≤ n ∧ ix = .int .i64 k ∧ out = .slice A2 k c2 ∧ cr = .int .u32 cy ∧ cy ≤ 1 ∧ Own wr w.heap.size 67 .u32 A2 k c2 o ∧ Dec.Small 1000000000 o ∧ Hid (Dec.lval 1000000000 o + 1000000000 ^ k * cy = Dec.lval 1000000000 (x.take k) + Dec.lval 1000000000 (y.take k)) ∧ Below w.heap.size w wr) (fun _ _ ix _ => n - (intOf ix).toNat)
  case atStart => exact ⟨0, _, _, [], 0, Nat.zero_le _, rfl, rfl, rfl, by omega, hown1, Dec.Small.nil, (by simp [Dec.lval] : Dec.lval 1000000000 [] + 1000000000 ^ 0 * 0 = Dec.lval 1000000000 (x.take 0) + Dec.lval 1000000000 (y.take 0)), hb1⟩
  case round =>
    obtain ⟨k, A2, c2, o, cy, hk, rfl, rfl, rfl, hcy, hown, hso, HV, hb⟩ := hrel
    have HO := Lib.hid hown.len
    by_cases hkn : k < n
    · obtain ⟨b, off, rfl, _, hcx⟩ := (hx.below hb).cells (by omega)
      have hcu := hcx k hkn
      clear hcx
      have hu := getD_lt (l := x) hsx (by omega) k
      by_cases hkm : k < n'
      · obtain ⟨b', off', rfl, _, hcy'⟩ := (hy.below hb).cells (by omega)
        have hcv := hcy' k hkm
        clear hcy'
        have hv := getD_lt (l := y) hsy (by omega) k
        have HR := Lib.hid (Dec.plus_round (a := x) (b := y) HO.out HV.out rfl)
        generalize x.getD k 0 = u at hcu hu HR
        generalize y.getD k 0 = v at hcv hv HR
        go_wp2_with (at_builtin; refine wpList_app (w0 := w) rfl _ _ _ rfl 67 .u32 4 Tryd.underlying54 infoU32 (by omega) _ _ _ o rfl hown _ ((u + cy + v) % 1000000000) (by omega) rfl (by omega) hb ?_; intro A3 c3 w2 hown2 hb2 _ _ _)
        go_roundw
        case rel => exact ⟨k + 1, A3, c3, o ++ [(u + cy + v) % 1000000000], (u + cy + v) / 1000000000, by omega, by go_num, rfl, by go_num, by omega, hown2, hso.append (Dec.Small.cons (by omega) Dec.Small.nil), HR.out, hb2⟩
        case measure => simp only [intOf]; omega
      · have hv : y.getD k 0 = 0 := by
          have := hy.len
          rw [List.getD_eq_getElem?_getD, List.getElem?_eq_none (by omega)]; rfl
        have HR := Lib.hid (Dec.plus_round (a := x) (b := y) (n := x.getD k 0 + cy) HO.out HV.out (by omega))
        clear hv
        generalize x.getD k 0 = u at hcu hu HR
        go_wp2_with (at_builtin; refine wpList_app (w0 := w) rfl _ _ _ rfl 67 .u32 4 Tryd.underlying54 infoU32 (by omega) _ _ _ o rfl hown _ ((u + cy) % 1000000000) (by omega) rfl (by omega) hb ?_; intro A3 c3 w2 hown2 hb2 _ _ _)
        go_roundw
        case rel => exact ⟨k + 1, A3, c3, o ++ [(u + cy) % 1000000000], (u + cy) / 1000000000, by omega, by go_num, rfl, by go_num, by omega, hown2, hso.append (Dec.Small.cons (by omega) Dec.Small.nil), HR.out, hb2⟩
        case measure => simp only [intOf]; omega
    · have hkk : k = n := by omega
      subst hkk
      have HF : Hid (Dec.lval 1000000000 (o ++ [cy]) = Dec.lval 1000000000 x + Dec.lval 1000000000 y) := by
        have h := HV.out
        rw [List.take_of_length_le (by rw [hx.len]; omega), List.take_of_length_le (by rw [hy.len]; omega)] at h
        rw [Dec.lval_snoc, HO.out]
        show _ = _
        omega
      go_wp2_with (at_builtin; refine wpList_app (w0 := w) rfl _ _ _ rfl 67 .u32 4 Tryd.underlying54 infoU32 (by omega) _ _ _ o rfl hown _ cy rfl rfl (by omega) hb ?_; intro A3 c3 w2 hown2 hb2 _ _ _)
      refine (trim_any _ _ _ _ _ hown2.sl (by omega)).mono ?_
      rintro e w' ⟨rfl, rfl⟩
      go_wp2
      go_ret
      refine ⟨_, _, _, rfl, ?_, hb2, hown2.fresh⟩
      have := hown2.sl.trimmed (B := 1000000000) (by omega) (hso.append (Dec.Small.cons (by omega) Dec.Small.nil))
      rw [HF.out] at this
      exact this

set_option maxHeartbeats 1000000 in
theorem plus_lt (A A' : Option Addr) (n n' c c' : Nat) (x y : List Nat) (w : World) (hx : Sl w .u32 A n c x) (hy : Sl w .u32 A' n' c' y) (hn : n ≤ 100000000) (hn' : n' ≤ 100000000)
    (hsx : Dec.Small 1000000000 x) (hsy : Dec.Small 1000000000 y) (hlt : n < n') :
    Calls Tryd.prog 54 #[.slice A n c, .slice A' n' c'] w (RetSl .u32 (Dec.limbs 1000000000 (Dec.lval 1000000000 x + Dec.lval 1000000000 y)) w) := by
  go_enter Tryd.func54, Tryd.ntmps54
  go_wp2_with (at_make; refine wpList_mk0 (w0 := w) rfl _ _ _ rfl 67 .u32 4 Tryd.underlying54 infoU32 (by omega) _ _ _ (n' + 1) rfl rfl (by omega) (by omega) (Below.refl _ _) ?_; intro w1 hown1 hb1 _ _)
  go_loopw [5, 6, 22] (fun out cr ix wr => ∃ (k : Nat) (A2 : Option Addr) (c2 : Nat) (o : List Nat) (cy : Nat), k ≤ n' ∧ ix = .int .i64 k ∧ out = .slice A2 k c2 ∧ cr = .int .u32 cy ∧ cy ≤ 1 ∧ Own wr w.heap.size 67 .u32 A2 k c2 o ∧ Dec.Small 1000000000 o ∧ Hid (Dec.lval 1000000000 o + 1000000000 ^ k * cy = Dec.lval 1000000000 (y.take k) + Dec.lval 1000000000 (x.take k)) ∧ Below w.heap.size w wr) (fun _ _ ix _ => n' - (intOf ix).toNat)
  case atStart => exact ⟨0, _, _, [], 0, Nat.zero_le _, rfl, rfl, rfl, by omega, hown1, Dec.Small.nil, (by simp [Dec.lval] : Dec.lval 1000000000 [] + 1000000000 ^ 0 * 0 = Dec.lval 1000000000 (y.take 0) + Dec.lval 1000000000 (x.take 0)), hb1⟩
  case round =>
    obtain ⟨k, A2, c2, o, cy, hk, rfl, rfl, rfl, hcy, hown, hso, HV, hb⟩ := hrel
    have HO := Lib.hid hown.len
    by_cases hkn : k < n'
    · obtain ⟨b, off, rfl, _, hcx⟩ := (hy.below hb).cells (by omega)
      have hcu := hcx k hkn
      clear hcx
      have hu := getD_lt (l := y) hsy (by omega) k
      by_cases hkm : k < n
      · obtain ⟨b', off', rfl, _, hcy'⟩ := (hx.below hb).cells (by omega)
        have hcv := hcy' k hkm
        clear hcy'
        have hv := getD_lt (l := x) hsx (by omega) k
        have HR := Lib.hid (Dec.plus_round (a := y) (b := x) HO.out HV.out rfl)
        generalize y.getD k 0 = u at hcu hu HR
        generalize x.getD k 0 = v at hcv hv HR
        go_wp2_with (at_builtin; refine wpList_app (w0 := w) rfl _ _ _ rfl 67 .u32 4 Tryd.underlying54 infoU32 (by omega) _ _ _ o rfl hown _ ((u + cy + v) % 1000000000) (by omega) rfl (by omega) hb ?_; intro A3 c3 w2 hown2 hb2 _ _ _)
        go_roundw
        case rel => exact ⟨k + 1, A3, c3, o ++ [(u + cy + v) % 1000000000], (u + cy + v) / 1000000000, by omega, by go_num, rfl, by go_num, by omega, hown2, hso.append (Dec.Small.cons (by omega) Dec.Small.nil), HR.out, hb2⟩
        case measure => simp only [intOf]; omega
      · have hv : x.getD k 0 = 0 := by
          have := hx.len
          rw [List.getD_eq_getElem?_getD, List.getElem?_eq_none (by omega)]; rfl
        have HR := Lib.hid (Dec.plus_round (a := y) (b := x) (n := y.getD k 0 + cy) HO.out HV.out (by omega))
        clear hv
        generalize y.getD k 0 = u at hcu hu HR
        go_wp2_with (at_builtin; refine wpList_app (w0 := w) rfl _ _ _ rfl 67 .u32 4 Tryd.underlying54 infoU32 (by omega) _ _ _ o rfl hown _ ((u + cy) % 1000000000) (by omega) rfl (by omega) hb ?_; intro A3 c3 w2 hown2 hb2 _ _ _)
        go_roundw
        case rel => exact ⟨k + 1, A3, c3, o ++ [(u + cy) % 1000000000], (u + cy) / 1000000000, by omega, by go_num, rfl, by go_num, by omega, hown2, hso.append (Dec.Small.cons (by omega) Dec.Small.nil), HR.out, hb2⟩
        case measure => simp only [intOf]; omega
    · have hkk : k = n' := by omega
      subst hkk
      have HF : Hid (Dec.lval 1000000000 (o ++ [cy]) = Dec.lval 1000000000 x + Dec.lval 1000000000 y) := by
        have h := HV.out
        rw [List.take_of_length_le (by rw [hy.len]; omega), List.take_of_length_le (by rw [hx.len]; omega)] at h
        rw [Dec.lval_snoc, HO.out]
        show _ = _
        omega
      go_wp2_with (at_builtin; refine wpList_app (w0 := w) rfl _ _ _ rfl 67 .u32 4 Tryd.underlying54 infoU32 (by omega) _ _ _ o rfl hown _ cy rfl rfl (by omega) hb ?_; intro A3 c3 w2 hown2 hb2 _ _ _)
      refine (trim_any _ _ _ _ _ hown2.sl (by omega)).mono ?_
      rintro e w' ⟨rfl, rfl⟩
      go_wp2
      go_ret
      refine ⟨_, _, _, rfl, ?_, hb2, hown2.fresh⟩
      have := hown2.sl.trimmed (B := 1000000000) (by omega) (hso.append (Dec.Small.cons (by omega) Dec.Small.nil))
      rw [HF.out] at this
      exact this

theorem plus_any (A A' : Option Addr) (n n' c c' : Nat) (x y : List Nat) (w : World) (hx : Sl w .u32 A n c x) (hy : Sl w .u32 A' n' c' y) (hn : n ≤ 100000000) (hn' : n' ≤ 100000000)
    (hsx : Dec.Small 1000000000 x) (hsy : Dec.Small 1000000000 y) :
    Calls Tryd.prog 54 #[.slice A n c, .slice A' n' c'] w (RetSl .u32 (Dec.limbs 1000000000 (Dec.lval 1000000000 x + Dec.lval 1000000000 y)) w) := by
  by_cases h : n < n'
  · exact plus_lt A A' n n' c c' x y w hx hy hn hn' hsx hsy h
  · exact plus_le A A' n n' c c' x y w hx hy hn hn' hsx hsy h
end Go.Proofs.YtcdgckbdplkdbaaDoor
