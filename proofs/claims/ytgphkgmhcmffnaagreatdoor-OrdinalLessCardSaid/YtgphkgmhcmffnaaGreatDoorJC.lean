/- number.plus: the limbs of the sum. -/
import Derived.Test.YtgphkgmhcmffnaaGreatDoorJB
namespace Go.Proofs.YtgphkgmhcmffnaaGreatDoor
open Go.RowKit

theorem infoU32 : (Tryz.prog.info? 118).map (fun i => (i.zero, i.size, i.bytes)) = some (some (.int .u32 0), 1, 4) := by kernel_rfl
theorem getD_lt {B : Nat} {l : List Nat} (hs : Dec.Small B l) (hB : 1 ≤ B) (k : Nat) : l.getD k 0 < B := hs.getD hB k

set_option maxHeartbeats 1000000 in
theorem plus_le (A A' : Option Addr) (n n' c c' : Nat) (x y : List Nat) (w : World) (hx : Sl w .u32 A n c x) (hy : Sl w .u32 A' n' c' y) (hn : n ≤ 100000000) (hn' : n' ≤ 100000000)
    (hsx : Dec.Small 1000000000 x) (hsy : Dec.Small 1000000000 y) (hlt : ¬ n < n') :
    Calls Tryz.prog 157 #[.slice A n c, .slice A' n' c'] w (RetSl .u32 (Dec.limbs 1000000000 (Dec.lval 1000000000 x + Dec.lval 1000000000 y)) w) := by
  go_enter Tryz.func157, Tryz.ntmps157
  go_wp2_with (at_make; refine wpList_mk0 (w0 := w) rfl _ _ _ rfl 118 .u32 4 Tryz.underlying97 infoU32 (by omega) _ _ _ (n + 1) rfl rfl (by omega) (by omega) (Below.refl _ _) ?_; intro w1 hown1 hb1 _ _)
  go_loopw [5, 6, 22] (fun out cr ix wr => ∃ (k : Nat) (A2 : Option Addr) (c2 : Nat) (o : List Nat) (cy : Nat), k ≤ n ∧ ix = .int .i64 k ∧ out = .slice A2 k c2 ∧ cr = .int .u32 cy ∧ cy ≤ 1 ∧ Own wr w.heap.size 118 .u32 A2 k c2 o ∧ Dec.Small 1000000000 o ∧ Hid (Dec.lval 1000000000 o + 1000000000 ^ k * cy = Dec.lval 1000000000 (x.take k) + Dec.lval 1000000000 (y.take k)) ∧ Below w.heap.size w wr) (fun _ _ ix _ => n - (intOf ix).toNat)
  case atStart => exact ⟨0, _, _, [], 0, Nat.zero_le _, rfl, rfl, rfl, by omega, hown1, Dec.Small.nil, (by simp [Dec.lval] : Dec.lval 1000000000 [] + 1000000000 ^ 0 * 0 = Dec.lval 1000000000 (x.take 0) + Dec.lval 1000000000 (y.take 0)), hb1⟩
  case round =>
    obtain ⟨k, A2, c2, o, cy, hk, rfl, rfl, rfl, hcy, hown, hso, HV, hb⟩ := hrel
    have HO := Lib.hid hown.len
    by_cases hkn : k < n
    · obtain ⟨b, off, rfl, _, hcx⟩ := (hx.below hb).cells (by omega)
      have hcu := hcx k hkn
      clear hcx
      have hu := getD_lt (l := x) hsx (by omega) k
      by_cases hkm : k < n'
      · obtain ⟨b', off', rfl, _, hcy'⟩ := (hy.below hb).cells (by omega)
        have hcv := hcy' k hkm
        clear hcy'
        have hv := getD_lt (l := y) hsy (by omega) k
        have HR := Lib.hid (Dec.plus_round (a := x) (b := y) HO.out HV.out rfl)
        generalize x.getD k 0 = u at hcu hu HR
        generalize y.getD k 0 = v at hcv hv HR
        go_wp2_with (at_builtin; refine wpList_app (w0 := w) rfl _ _ _ rfl 118 .u32 4 Tryz.underlying97 infoU32 (by omega) _ _ _ o rfl hown _ ((u + cy + v) % 1000000000) (by omega) rfl (by omega) hb ?_; intro A3 c3 w2 hown2 hb2 _ _ _)
        go_roundw
        case rel => exact ⟨k + 1, A3, c3, o ++ [(u + cy + v) % 1000000000], (u + cy + v) / 1000000000, by omega, by go_num, rfl, by go_num, by omega, hown2, hso.append (Dec.Small.cons (by omega) Dec.Small.nil), HR.out, hb2⟩
        case measure => simp only [intOf]; omega
      · have hv : y.getD k 0 = 0 := by
          have := hy.len
          rw [List.getD_eq_getElem?_getD, List.getElem?_eq_none (by omega)]; rfl
        have HR := Lib.hid (Dec.plus_round (a := x) (b := y) (n := x.getD k 0 + cy) HO.out HV.out (by omega))
        clear hv
        generalize x.getD k 0 = u at hcu hu HR
        go_wp2_with (at_builtin; refine wpList_app (w0 := w) rfl _ _ _ rfl 118 .u32 4 Tryz.underlying97 infoU32 (by omega) _ _ _ o rfl hown _ ((u + cy) % 1000000000) (by omega) rfl (by omega) hb ?_; intro A3 c3 w2 hown2 hb2 _ _ _)
        go_roundw
        case rel => exact ⟨k + 1, A3, c3, o ++ [(u + cy) % 1000000000], (u + cy) / 1000000000, by omega, by go_num, rfl, by go_num, by omega, hown2, hso.append (Dec.Small.cons (by omega) Dec.Small.nil), HR.out, hb2⟩
        case measure => simp only [intOf]; omega
    · have hkk : k = n := by omega
      subst hkk
      have HF : Hid (Dec.lval 1000000000 (o ++ [cy]) = Dec.lval 1000000000 x + Dec.lval 1000000000 y) := by
        have h := HV.out
        rw [List.take_of_length_le (by rw [hx.len]; omega), List.take_of_length_le (by rw [hy.len]; omega)] at h
        rw [Dec.lval_snoc, HO.out]
        show _ = _
        omega
      go_wp2_with (at_builtin; refine wpList_app (w0 := w) rfl _ _ _ rfl 118 .u32 4 Tryz.underlying97 infoU32 (by omega) _ _ _ o rfl hown _ cy rfl rfl (by omega) hb ?_; intro A3 c3 w2 hown2 hb2 _ _ _)
      refine (trim_any _ _ _ _ _ hown2.sl (by omega)).mono ?_
      rintro e w' ⟨rfl, rfl⟩
      go_wp2
      go_ret
      refine ⟨_, _, _, rfl, ?_, hb2, hown2.fresh⟩
      have := hown2.sl.trimmed (B := 1000000000) (by omega) (hso.append (Dec.Small.cons (by omega) Dec.Small.nil))
      rw [HF.out] at this
      exact this

set_option maxHeartbeats 1000000 in
theorem plus_lt (A A' : Option Addr) (n n' c c' : Nat) (x y : List Nat) (w : World) (hx : Sl w .u32 A n c x) (hy : Sl w .u32 A' n' c' y) (hn : n ≤ 100000000) (hn' : n' ≤ 100000000)
    (hsx : Dec.Small 1000000000 x) (hsy : Dec.Small 1000000000 y) (hlt : n < n') :
    Calls Tryz.prog 157 #[.slice A n c, .slice A' n' c'] w (RetSl .u32 (Dec.limbs 1000000000 (Dec.lval 1000000000 x + Dec.lval 1000000000 y)) w) := by
  go_enter Tryz.func157, Tryz.ntmps157
  go_wp2_with (at_make; refine wpList_mk0 (w0 := w) rfl _ _ _ rfl 118 .u32 4 Tryz.underlying97 infoU32 (by omega) _ _ _ (n' + 1) rfl rfl (by omega) (by omega) (Below.refl _ _) ?_; intro w1 hown1 hb1 _ _)
  go_loopw [5, 6, 22] (fun out cr ix wr => ∃ (k : Nat) (A2 : Option Addr) (c2 : Nat) (o : List Nat) (cy : Nat), k ≤ n' ∧ ix = .int .i64 k ∧ out = .slice A2 k c2 ∧ cr = .int .u32 cy ∧ cy ≤ 1 ∧ Own wr w.heap.size 118 .u32 A2 k c2 o ∧ Dec.Small 1000000000 o ∧ Hid (Dec.lval 1000000000 o + 1000000000 ^ k * cy = Dec.lval 1000000000 (y.take k) + Dec.lval 1000000000 (x.take k)) ∧ Below w.heap.size w wr) (fun _ _ ix _ => n' - (intOf ix).toNat)
  case atStart => exact ⟨0, _, _, [], 0, Nat.zero_le _, rfl, rfl, rfl, by omega, hown1, Dec.Small.nil, (by simp [Dec.lval] : Dec.lval 1000000000 [] + 1000000000 ^ 0 * 0 = Dec.lval 1000000000 (y.take 0) + Dec.lval 1000000000 (x.take 0)), hb1⟩
  case round =>
    obtain ⟨k, A2, c2, o, cy, hk, rfl, rfl, rfl, hcy, hown, hso, HV, hb⟩ := hrel
    have HO := Lib.hid hown.len
    by_cases hkn : k < n'
    · obtain ⟨b, off, rfl, _, hcx⟩ := (hy.below hb).cells (by omega)
      have hcu := hcx k hkn
      clear hcx
      have hu := getD_lt (l := y) hsy (by omega) k
      by_cases hkm : k < n
      · obtain ⟨b', off', rfl, _, hcy'⟩ := (hx.below hb).cells (by omega)
        have hcv := hcy' k hkm
        clear hcy'
        have hv := getD_lt (l := x) hsx (by omega) k
        have HR := Lib.hid (Dec.plus_round (a := y) (b := x) HO.out HV.out rfl)
        generalize y.getD k 0 = u at hcu hu HR
        generalize x.getD k 0 = v at hcv hv HR
        go_wp2_with (at_builtin; refine wpList_app (w0 := w) rfl _ _ _ rfl 118 .u32 4 Tryz.underlying97 infoU32 (by omega) _ _ _ o rfl hown _ ((u + cy + v) % 1000000000) (by omega) rfl (by omega) hb ?_; intro A3 c3 w2 hown2 hb2 _ _ _)
        go_roundw
        case rel => exact ⟨k + 1, A3, c3, o ++ [(u + cy + v) % 1000000000], (u + cy + v) / 1000000000, by omega, by go_num, rfl, by go_num, by omega, hown2, hso.append (Dec.Small.cons (by omega) Dec.Small.nil), HR.out, hb2⟩
        case measure => simp only [intOf]; omega
      · have hv : x.getD k 0 = 0 := by
          have := hx.len
          rw [List.getD_eq_getElem?_getD, List.getElem?_eq_none (by omega)]; rfl
        have HR := Lib.hid (Dec.plus_round (a := y) (b := x) (n := y.getD k 0 + cy) HO.out HV.out (by omega))
        clear hv
        generalize y.getD k 0 = u at hcu hu HR
        go_wp2_with (at_builtin; refine wpList_app (w0 := w) rfl _ _ _ rfl 118 .u32 4 Tryz.underlying97 infoU32 (by omega) _ _ _ o rfl hown _ ((u + cy) % 1000000000) (by omega) rfl (by omega) hb ?_; intro A3 c3 w2 hown2 hb2 _ _ _)
        go_roundw
        case rel => exact ⟨k + 1, A3, c3, o ++ [(u + cy) % 1000000000], (u + cy) / 1000000000, by omega, by go_num, rfl, by go_num, by omega, hown2, hso.append (Dec.Small.cons (by omega) Dec.Small.nil), HR.out, hb2⟩
        case measure => simp only [intOf]; omega
    · have hkk : k = n' := by omega
      subst hkk
      have HF : Hid (Dec.lval 1000000000 (o ++ [cy]) = Dec.lval 1000000000 x + Dec.lval 1000000000 y) := by
        have h := HV.out
        rw [List.take_of_length_le (by rw [hy.len]; omega), List.take_of_length_le (by rw [hx.len]; omega)] at h
        rw [Dec.lval_snoc, HO.out]
        show _ = _
        omega
      go_wp2_with (at_builtin; refine wpList_app (w0 := w) rfl _ _ _ rfl 118 .u32 4 Tryz.underlying97 infoU32 (by omega) _ _ _ o rfl hown _ cy rfl rfl (by omega) hb ?_; intro A3 c3 w2 hown2 hb2 _ _ _)
      refine (trim_any _ _ _ _ _ hown2.sl (by omega)).mono ?_
      rintro e w' ⟨rfl, rfl⟩
      go_wp2
      go_ret
      refine ⟨_, _, _, rfl, ?_, hb2, hown2.fresh⟩
      have := hown2.sl.trimmed (B := 1000000000) (by omega) (hso.append (Dec.Small.cons (by omega) Dec.Small.nil))
      rw [HF.out] at this
      exact this

theorem plus_any (A A' : Option Addr) (n n' c c' : Nat) (x y : List Nat) (w : World) (hx : Sl w .u32 A n c x) (hy : Sl w .u32 A' n' c' y) (hn : n ≤ 100000000) (hn' : n' ≤ 100000000)
    (hsx : Dec.Small 1000000000 x) (hsy : Dec.Small 1000000000 y) :
    Calls Tryz.prog 157 #[.slice A n c, .slice A' n' c'] w (RetSl .u32 (Dec.limbs 1000000000 (Dec.lval 1000000000 x + Dec.lval 1000000000 y)) w) := by
  by_cases h : n < n'
  · exact plus_lt A A' n n' c c' x y w hx hy hn hn' hsx hsy h
  · exact plus_le A A' n n' c c' x y w hx hy hn hn' hsx hsy h
end Go.Proofs.YtgphkgmhcmffnaaGreatDoor
/- number.minus: the limbs of the difference. -/
namespace Go.Proofs.YtgphkgmhcmffnaaGreatDoor
open Go.RowKit

set_option maxHeartbeats 1000000 in
theorem minus_any (A A' : Option Addr) (n n' c c' : Nat) (x y : List Nat) (w : World) (hx : Sl w .u32 A n c x) (hy : Sl w .u32 A' n' c' y) (hn : n ≤ 100000000) (hnn : n' ≤ n)
    (hsx : Dec.Small 1000000000 x) (hsy : Dec.Small 1000000000 y) (hle : Dec.lval 1000000000 y ≤ Dec.lval 1000000000 x) :
    Calls Tryz.prog 158 #[.slice A n c, .slice A' n' c'] w (RetSl .u32 (Dec.limbs 1000000000 (Dec.lval 1000000000 x - Dec.lval 1000000000 y)) w) := by
  go_enter Tryz.func158, Tryz.ntmps158
  go_wp2_with (at_make; refine wpList_mk (w0 := w) rfl _ _ _ rfl 118 .u32 4 Tryz.underlying97 infoU32 (by omega) _ _ _ _ n rfl rfl (by omega) (by omega) (by omega) (Below.refl _ _) ?_; intro w1 hown1 hb1 _ _)
  go_loopw [6, 14] (fun br ix wr => ∃ (k : Nat) (o : List Nat) (bw : Nat), k ≤ n ∧ ix = .int .i64 k ∧ br = .int .i64 bw ∧ bw ≤ 1 ∧ Own wr w.heap.size 118 .u32 (some ⟨w.heap.size, 0, none⟩) n n (o ++ List.replicate (n - k) 0) ∧ Hid (o.length = k) ∧ Dec.Small 1000000000 o ∧ Hid (Dec.lval 1000000000 (x.take k) + 1000000000 ^ k * bw = Dec.lval 1000000000 o + Dec.lval 1000000000 (y.take k)) ∧ Below w.heap.size w wr) (fun _ ix _ => n - (intOf ix).toNat)
  case atStart => exact ⟨0, [], 0, Nat.zero_le _, rfl, rfl, by omega, hown1, (rfl : ([] : List Nat).length = 0), Dec.Small.nil, (by simp [Dec.lval] : Dec.lval 1000000000 (x.take 0) + 1000000000 ^ 0 * 0 = Dec.lval 1000000000 [] + Dec.lval 1000000000 (y.take 0)), hb1⟩
  case round =>
    obtain ⟨k, o, bw, hk, rfl, rfl, hbw, hown, HO, hso, HV, hb⟩ := hrel
    by_cases hkn : k < n
    · obtain ⟨b, off, rfl, _, hcx⟩ := (hx.below hb).cells (by omega)
      have hcu := hcx k hkn
      clear hcx
      have hu := getD_lt (l := x) hsx (by omega) k
      obtain ⟨hco, hfo, _, hgl⟩ := hown.cellAt hkn
      generalize (o ++ List.replicate (n - k) 0).getD k 0 = z at hco
      by_cases hkm : k < n'
      · obtain ⟨b', off', rfl, _, hcy'⟩ := (hy.below hb).cells (by omega)
        have hcv := hcy' k hkm
        clear hcy'
        have hv := getD_lt (l := y) hsy (by omega) k
        have HR := fun d t => Lib.hid (Dec.minus_round (B := 1000000000) (a := x) (b := y) (d := d) (n := t) HO.out HV.out)
        generalize x.getD k 0 = u at hcu hu HR
        generalize y.getD k 0 = v at hcv hv HR
        by_cases hneg : (u : Int) - bw - v < 0
        · have HR1 := Lib.hid ((HR 1 (u + 1000000000 - bw - v)).out (by omega))
          clear HR
          go_wp2
          go_roundw
          case rel => exact ⟨k + 1, o ++ [u + 1000000000 - bw - v], 1, by omega, by go_num, rfl, by omega, hown.setInt (by omega) (set_replicate o n k _ hkn HO.out), (by rw [List.length_append, HO.out]; rfl : (o ++ [u + 1000000000 - bw - v]).length = k + 1), hso.append (Dec.Small.cons (by omega) Dec.Small.nil), HR1.out, hb.setCell (p := ⟨w.heap.size, k, none⟩) (Nat.le_refl _) _⟩
          case measure => simp only [intOf]; omega
        · have HR1 := Lib.hid ((HR 0 (u - bw - v)).out (by omega))
          clear HR
          go_wp2
          go_roundw
          case rel => exact ⟨k + 1, o ++ [u - bw - v], 0, by omega, by go_num, rfl, by omega, hown.setInt (by omega) (set_replicate o n k _ hkn HO.out), (by rw [List.length_append, HO.out]; rfl : (o ++ [u - bw - v]).length = k + 1), hso.append (Dec.Small.cons (by omega) Dec.Small.nil), HR1.out, hb.setCell (p := ⟨w.heap.size, k, none⟩) (Nat.le_refl _) _⟩
          case measure => simp only [intOf]; omega
      · have hv : y.getD k 0 = 0 := by
          have := hy.len
          rw [List.getD_eq_getElem?_getD, List.getElem?_eq_none (by omega)]; rfl
        have HR := fun d t => Lib.hid (Dec.minus_round (B := 1000000000) (a := x) (b := y) (d := d) (n := t) HO.out HV.out)
        rw [hv] at HR
        clear hv
        generalize x.getD k 0 = u at hcu hu HR
        by_cases hneg : (u : Int) - bw < 0
        · have HR1 := Lib.hid ((HR 1 (u + 1000000000 - bw)).out (by omega))
          clear HR
          go_wp2
          go_roundw
          case rel => exact ⟨k + 1, o ++ [u + 1000000000 - bw], 1, by omega, by go_num, rfl, by omega, hown.setInt (by omega) (set_replicate o n k _ hkn HO.out), (by rw [List.length_append, HO.out]; rfl : (o ++ [u + 1000000000 - bw]).length = k + 1), hso.append (Dec.Small.cons (by omega) Dec.Small.nil), HR1.out, hb.setCell (p := ⟨w.heap.size, k, none⟩) (Nat.le_refl _) _⟩
          case measure => simp only [intOf]; omega
        · have HR1 := Lib.hid ((HR 0 (u - bw)).out (by omega))
          clear HR
          go_wp2
          go_roundw
          case rel => exact ⟨k + 1, o ++ [u - bw], 0, by omega, by go_num, rfl, by omega, hown.setInt (by omega) (set_replicate o n k _ hkn HO.out), (by rw [List.length_append, HO.out]; rfl : (o ++ [u - bw]).length = k + 1), hso.append (Dec.Small.cons (by omega) Dec.Small.nil), HR1.out, hb.setCell (p := ⟨w.heap.size, k, none⟩) (Nat.le_refl _) _⟩
          case measure => simp only [intOf]; omega
    · have hkk : k = n := by omega
      subst hkk
      have hfin : Dec.lval 1000000000 o = Dec.lval 1000000000 x - Dec.lval 1000000000 y := by
        have h := HV.out
        rw [List.take_of_length_le (by rw [hx.len]; omega), List.take_of_length_le (by rw [hy.len]; omega)] at h
        have hlt := Dec.lval_lt (B := 1000000000) (by omega) hso
        rw [HO.out] at hlt
        rcases Nat.eq_zero_or_pos bw with e | e
        · subst e; omega
        · obtain rfl : bw = 1 := by omega
          omega
      have HF := Lib.hid hfin
      clear hfin
      have hsl := hown.sl
      rw [Nat.sub_self] at hsl
      simp only [List.replicate_zero, List.append_nil] at hsl
      go_wp2_with fail
      refine (trim_any _ _ _ _ _ hsl (by omega)).mono ?_
      rintro e w' ⟨rfl, rfl⟩
      go_wp2
      go_ret
      refine ⟨_, _, _, rfl, ?_, hb, hown.fresh⟩
      have := hsl.trimmed (B := 1000000000) (by omega) hso
      rw [HF.out] at this
      exact this
end Go.Proofs.YtgphkgmhcmffnaaGreatDoor
/- number.times: the limbs of the product. -/
namespace Go.Proofs.YtgphkgmhcmffnaaGreatDoor
open Go.RowKit

theorem getD_set_ne (l : List Nat) (i j v : Nat) (h : i ≠ j) : (l.set i v).getD j 0 = l.getD j 0 := by
  rw [List.getD_eq_getElem?_getD, List.getD_eq_getElem?_getD, List.getElem?_set_ne h]
theorem getD_replicate (n j : Nat) : (List.replicate n 0).getD j 0 = 0 := by
  rw [List.getD_eq_getElem?_getD, List.getElem?_replicate]; split <;> rfl
theorem lval_replicate (B n : Nat) : Dec.lval B (List.replicate n 0) = 0 := by
  induction n with
  | zero => rfl
  | succ n ih => rw [List.replicate_succ, Dec.lval, ih]; simp
theorem small_replicate (B n : Nat) (hB : 1 ≤ B) : Dec.Small B (List.replicate n 0) := by
  intro x hx
  rw [(List.mem_replicate.1 hx).2]; omega
theorem mul_bound {u v : Nat} (hu : u < 1000000000) (hv : v < 1000000000) : (0 : Int) ≤ (u : Int) * v ∧ (u : Int) * v ≤ 999999998000000001 := by
  have h : u * v ≤ 999999999 * 999999999 := Nat.mul_le_mul (by omega) (by omega)
  have e : ((u * v : Nat) : Int) = (u : Int) * v := by rw [Int.natCast_mul]
  omega
theorem cast_mod {z u v c : Nat} : ((z : Int) + (u : Int) * v + c) % 1000000000 = (((z + u * v + c) % 1000000000 : Nat) : Int) := by
  rw [Int.natCast_emod, Int.natCast_add, Int.natCast_add, Int.natCast_mul]; rfl
theorem cast_div {z u v c : Nat} : ((z : Int) + (u : Int) * v + c) / 1000000000 = (((z + u * v + c) / 1000000000 : Nat) : Int) := by
  rw [Int.natCast_ediv, Int.natCast_add, Int.natCast_add, Int.natCast_mul]; rfl

set_option maxHeartbeats 2000000 in
theorem times_any (A A' : Option Addr) (n n' c c' : Nat) (x y : List Nat) (w : World) (hx : Sl w .u32 A n c x) (hy : Sl w .u32 A' n' c' y) (hn : n ≤ 100000000) (hn' : n' ≤ 100000000)
    (hsx : Dec.Small 1000000000 x) (hsy : Dec.Small 1000000000 y) :
    Calls Tryz.prog 144 #[.slice A n c, .slice A' n' c'] w (RetSl .u32 (Dec.limbs 1000000000 (Dec.lval 1000000000 x * Dec.lval 1000000000 y)) w) := by
  go_enter Tryz.func144, Tryz.ntmps144
  go_wp2_with (at_make; refine wpList_mk (w0 := w) rfl _ _ _ rfl 118 .u32 4 Tryz.underlying97 infoU32 (by omega) _ _ _ _ (n + n') rfl rfl (by omega) (by omega) (by omega) (Below.refl _ _) ?_; intro w1 hown1 hb1 _ _)
  go_loopw [20] (fun ix wr => ∃ (k : Nat) (L : List Nat), k ≤ n ∧ ix = .int .i64 k ∧ Own wr w.heap.size 118 .u32 (some ⟨w.heap.size, 0, none⟩) (n + n') (n + n') L ∧ Dec.Small 1000000000 L ∧ Hid (Dec.lval 1000000000 L = Dec.lval 1000000000 (x.take k) * Dec.lval 1000000000 y) ∧ Hid (∀ j, k + n' ≤ j → L.getD j 0 = 0) ∧ Below w.heap.size w wr) (fun ix _ => n - (intOf ix).toNat)
  case atStart => exact ⟨0, _, Nat.zero_le _, rfl, hown1, small_replicate _ _ (by omega), (by rw [lval_replicate, List.take_zero]; simp [Dec.lval] : Dec.lval 1000000000 (List.replicate (n + n') 0) = Dec.lval 1000000000 (x.take 0) * Dec.lval 1000000000 y), (fun j _ => getD_replicate _ j : ∀ j, 0 + n' ≤ j → (List.replicate (n + n') 0).getD j 0 = 0), hb1⟩
  case round =>
    obtain ⟨k, L, hk, rfl, hown, hsL, HV, HZ, hb⟩ := hrel
    obtain ⟨wo, rfl⟩ : ∃ wo : World, wo = wr := ⟨_, rfl⟩
    by_cases hkn : k < n
    · obtain ⟨b, off, rfl, _, hcx⟩ := (hx.below hb).cells (by omega)
      have hcu := hcx k hkn
      clear hcx
      have hu := getD_lt (l := x) hsx (by omega) k
      have HT := Lib.hid (Dec.times_outer (B := 1000000000) (a := x) (b := y) (i := k) HV.out)
      generalize x.getD k 0 = u at hcu hu HT
      go_wp2
      go_loopw [8, 27] (fun cr jx wr => ∃ (m cy : Nat) (M : List Nat), m ≤ n' ∧ jx = .int .i64 m ∧ cr = .int .u64 cy ∧ cy < 1000000000 ∧ Own wr w.heap.size 118 .u32 (some ⟨w.heap.size, 0, none⟩) (n + n') (n + n') M ∧ Dec.Small 1000000000 M ∧ Hid (Dec.lval 1000000000 M + 1000000000 ^ (k + m) * cy = Dec.lval 1000000000 L + 1000000000 ^ k * (u * Dec.lval 1000000000 (y.take m))) ∧ Hid (∀ j, k + n' ≤ j → M.getD j 0 = 0) ∧ Below w.heap.size w wr) (fun _ jx _ => n' - (intOf jx).toNat)
      case atStart => exact ⟨0, 0, L, Nat.zero_le _, rfl, rfl, by omega, hown, hsL, (by simp [Dec.lval] : Dec.lval 1000000000 L + 1000000000 ^ (k + 0) * 0 = Dec.lval 1000000000 L + 1000000000 ^ k * (u * Dec.lval 1000000000 (y.take 0))), HZ, hb⟩
      case round =>
        obtain ⟨m, cy, M, hm, rfl, rfl, hcy, hownM, hsM, HM, HZM, hbM⟩ := hrel
        by_cases hmn : m < n'
        · obtain ⟨b', off', rfl, _, hcy'⟩ := (hy.below hbM).cells (by omega)
          have hcv := hcy' m hmn
          clear hcy'
          have hv := getD_lt (l := y) hsy (by omega) m
          have hlM := hownM.len
          obtain ⟨hco, hfo, _, hgl⟩ := hownM.cellAt (i := k + m) (by omega)
          have hz := getD_lt (l := M) hsM (by omega) (k + m)
          have HR := Lib.hid (Dec.times_round (B := 1000000000) (o := M) (b := y) (x := u) (i := k) (j := m) (by omega) HM.out rfl rfl)
          clear hlM
          generalize M.getD (k + m) 0 = z at hco hz HR
          generalize y.getD m 0 = v at hcv hv HR
          obtain ⟨hp1, hp2⟩ := mul_bound hu hv
          have hfit := Dec.times_fits (B := 1000000000) (by omega) hz hu hv hcy
          go_wp2
          go_roundw
          case rel =>
            refine ⟨m + 1, (z + u * v + cy) / 1000000000, M.set (k + m) ((z + u * v + cy) % 1000000000), by omega, by go_num, ?_, by omega, hownM.setInt ?_ rfl, hsM.set (by omega), HR.out, (fun j hj => by rw [getD_set_ne _ _ _ _ (by omega)]; exact HZM.out j hj : ∀ j, k + n' ≤ j → (M.set (k + m) ((z + u * v + cy) % 1000000000)).getD j 0 = 0), hbM.setCell (p := ⟨w.heap.size, k + m, none⟩) (Nat.le_refl _) _⟩
            · rw [cast_div]
            · rw [cast_mod]
          case measure => simp only [intOf]; omega
        · have hmm : m = n' := by omega
          subst hmm
          obtain ⟨hco, hfo, _, hgl⟩ := hownM.cellAt (i := k + m) (by omega)
          have HR : Hid (Dec.lval 1000000000 (M.set (k + m) cy) = Dec.lval 1000000000 (x.take (k + 1)) * Dec.lval 1000000000 y) := by
            have hly := hy.len
            subst hly
            exact (Dec.times_row (by rw [hownM.len]; omega) (HZM.out _ (Nat.le_refl _)) HM.out).trans HT.out
          generalize M.getD (k + m) 0 = z at hco
          go_wp2
          go_roundw
          case rel => exact ⟨k + 1, M.set (k + m) cy, by omega, by go_num, hownM.setInt (by omega) rfl, hsM.set hcy, HR.out, (fun j hj => by rw [getD_set_ne _ _ _ _ (by omega)]; exact HZM.out j (by omega) : ∀ j, k + 1 + m ≤ j → (M.set (k + m) cy).getD j 0 = 0), hbM.setCell (p := ⟨w.heap.size, k + m, none⟩) (Nat.le_refl _) _⟩
          case measure => simp only [intOf]; omega
    · have hkk : k = n := by omega
      subst hkk
      have hsl := hown.sl
      go_wp2_with fail
      refine (trim_any _ _ _ _ _ hsl (by omega)).mono ?_
      rintro e w' ⟨rfl, rfl⟩
      go_wp2
      go_ret
      refine ⟨_, _, _, rfl, ?_, hb, hown.fresh⟩
      have := hsl.trimmed (B := 1000000000) (by omega) hsL
      rw [HV.out, List.take_of_length_le (by rw [hx.len]; omega)] at this
      exact this
end Go.Proofs.YtgphkgmhcmffnaaGreatDoor
