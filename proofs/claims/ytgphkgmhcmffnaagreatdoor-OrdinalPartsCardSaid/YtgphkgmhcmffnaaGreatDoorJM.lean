/- lispproverref1.text: the decimal of a sign and digits. -/
import Derived.Test.YtgphkgmhcmffnaaGreatDoorJL
import Derived.Laws.BytesArg
import Derived.IntWalk
import Derived.Deep.QuietTactic
import Derived.BigQuiet
import Derived.Deep.DeepCutAuto
import Derived.Test.YtgphkgmhcmffnaaGreatDoorJF
import Derived.Deep.LoopGhost
namespace Go.Proofs.YtgphkgmhcmffnaaGreatDoor
open Go.RowKit

theorem Sl.str {P : Program} {w : World} {A : Option Addr} {n c : Nat} {l : List Nat} (h : Sl w .u8 A n c l) (hn : 0 < n) (src e dst : TypeId) (hs : P.underlying src = some (.slice e)) (he : P.underlying e = some (.int .u8)) (hd : P.underlying dst = some .string) :
    (convert src dst (.slice A n c)).run P w = .ok (.string ⟨(l.map UInt8.ofNat).toArray⟩) w := by
  obtain ⟨b, o, rfl, _, hc⟩ := h.cells hn
  have := run_convert_bytes_arg (P := P) w src e hs he b o n c (l.map fun (x : Nat) => (x : Int)) (by rw [List.length_map, h.len]) (fun i hi => by
    rw [hc i hi, List.getD_eq_getElem?_getD, List.getD_eq_getElem?_getD, List.getElem?_map, List.getElem?_eq_getElem (by rw [h.len]; exact hi)]; rfl) dst hd
  rw [this]
  simp [strOfNums]

theorem text_bytes (ng : Bool) {v : Nat} (hv : v ≠ 0) : ((if ng then [45] else []) ++ ((Dec.limbs 10 v).drop 0).reverse.map (fun d => 48 + d)).map UInt8.ofNat = numStr ng v := by
  unfold numStr
  rw [itoa_sign ng hv, List.map_append, List.drop_zero, List.map_map, ← Dec.limbs10_decDigits hv]
  cases ng <;> rfl
theorem drop_rev {l : List Nat} {j : Nat} (h0 : 0 < j) (hj : j ≤ l.length) : ((l.drop (j - 1)).reverse.map fun d => 48 + d) = ((l.drop j).reverse.map fun d => 48 + d) ++ [48 + l.getD (j - 1) 0] := by
  obtain ⟨m, rfl⟩ : ∃ m, j = m + 1 := ⟨j - 1, by omega⟩
  rw [Nat.add_sub_cancel, List.drop_eq_getElem_cons (by omega), List.reverse_cons, List.map_append, List.getD_eq_getElem?_getD, List.getElem?_eq_getElem (by omega)]
  rfl

set_option maxHeartbeats 1000000 in
set_option maxRecDepth 100000 in
theorem refText_any (ng : Bool) (A : Option Addr) (n c : Nat) (x : List Nat) (w : World) (hx : Sl w .i64 A n c x) (hn : n ≤ 100000000) (hs : Dec.Small 10 x) :
    Calls Tryz.prog 109 #[.bool ng, .slice A n c] w (RetStr (numStr ng (Dec.lval 10 x)) w) := by
  have HT := Lib.hid (refTrim_any A n c x w hx (by omega))
  have hsl := hx.trimmed (B := 10) (by omega) hs
  have htl := trimZ_length_le x
  have hxl := hx.len
  have HL := Lib.hid hsl.len
  generalize (Dec.trimZ x).length = m at HT hsl htl HL
  generalize Dec.lval 10 x = v at hsl HL
  have hm : m ≤ 100000000 := by omega
  clear htl hxl
  by_cases h0 : v = 0
  · subst h0
    have hm0 : m = 0 := by rw [← HL.out]; rfl
    subst hm0
    rw [numStr_zero]
    go_enter Tryz.func109, Tryz.ntmps109
    go_wp2_with fail
    refine HT.out.mono ?_
    rintro e w' ⟨rfl, rfl⟩
    go_wp2
    go_ret
    exact ⟨rfl, Below.refl _ _⟩
  · have hmp : 0 < m := by
      rcases Nat.eq_zero_or_pos m with e | e
      · exact absurd ((Dec.limbs_eq_nil (B := 10) (by omega)).1 (List.eq_nil_of_length_eq_zero (by rw [HL.out]; exact e))) h0
      · exact e
    have hm0 : ((m : Int) == 0) = false := by rw [beq_eq_false_iff_ne]; omega
    have HF := Lib.hid h0
    clear h0
    have hsm := Dec.limbs_small (B := 10) (by omega) v
    cases ng with
    | true =>
      have HG : Hid (([45] ++ ((Dec.limbs 10 v).drop 0).reverse.map (fun d => 48 + d)).map UInt8.ofNat = numStr true v) := text_bytes true HF.out
      go_enter Tryz.func109, Tryz.ntmps109
      go_wp2_with fail
      refine HT.out.mono ?_
      rintro e w' ⟨rfl, rfl⟩
      go_wp2_with (at_builtin; refine wpList_app (w0 := w) rfl _ _ _ rfl 5 .u8 1 Tryz.underlying91 infoByte (by omega) _ _ _ [] rfl (Own.nil _ _ _ _) _ 45 (by omega) rfl (by omega) (Below.refl _ _) ?_; intro A1 c1 w1 hown1 hb1 _ _ _)
      go_loopw [5, 6] (fun out ix wr => ∃ (j c2 : Nat) (A2 : Option Addr), j ≤ m ∧ ix = .int .i64 ((j : Int) - 1) ∧ out = .slice A2 (1 + (m - j)) c2 ∧ Own wr w.heap.size 5 .u8 A2 (1 + (m - j)) c2 ([45] ++ ((Dec.limbs 10 v).drop j).reverse.map (fun d => 48 + d)) ∧ Below w.heap.size w wr) (fun _ ix _ => (intOf ix + 1).toNat)
      case atStart => exact ⟨m, c1, A1, Nat.le_refl _, rfl, by rw [Nat.sub_self], by rw [Nat.sub_self, List.drop_of_length_le (by rw [HL.out]; exact Nat.le_refl _)]; exact hown1, hb1⟩
      case round =>
        obtain ⟨j, c2, A2, hj, rfl, rfl, hown, hb⟩ := hrel
        by_cases hj0 : 0 < j
        · obtain ⟨b, o, rfl, _, hcx⟩ := (hsl.below hb).cells (by omega)
          have hcu := hcx (j - 1) (by omega)
          clear hcx
          have hu := getD_lt hsm (by omega) (j - 1)
          have HR := Lib.hid (drop_rev (l := Dec.limbs 10 v) hj0 (by rw [HL.out]; exact hj))
          generalize (Dec.limbs 10 v).getD (j - 1) 0 = u at hcu hu HR
          have hi1 : (0 : Int) ≤ (j : Int) - 1 := by omega
          have hi2 : (j : Int) - 1 < m := by omega
          have hi3 : ((j : Int) - 1).toNat = j - 1 := by omega
          have hw8 : IntKind.u8.wrap (48 + (u : Int)) = 48 + u := by rw [IntKind.wrap_u8]; omega
          go_wp2_with (at_builtin; refine wpList_app (w0 := w) rfl _ _ _ rfl 5 .u8 1 Tryz.underlying91 infoByte (by omega) _ _ _ _ rfl hown _ (48 + u) (by omega) rfl (by omega) hb ?_; intro A3 c3 w2 hown2 hb2 _ _ _)
          go_roundw
          case rel => exact ⟨j - 1, c3, A3, by omega, by go_num, by congr 1; omega, by rw [HR.out, ← List.append_assoc, show 1 + (m - (j - 1)) = 1 + (m - j) + 1 by omega]; exact hown2, hb2⟩
          case measure => simp only [intOf]; omega
        · have hjz : j = 0 := by omega
          subst hjz
          have hst := hown.sl.str (P := Tryz.prog) (by omega) 91 5 9 Tryz.underlying91 Tryz.underlying5 Tryz.underlying9
          rw [HG.out] at hst
          obtain ⟨S, hS⟩ : ∃ S : ByteArray, S = ⟨(numStr true v).toArray⟩ := ⟨_, rfl⟩
          rw [← hS] at hst
          have HS := Lib.hid hS
          clear hS
          simp only [Nat.sub_zero] at hst
          go_wp2
          go_ret
          exact ⟨by rw [← HS.out]; rfl, hb⟩
    | false =>
      have HG : Hid (([] ++ ((Dec.limbs 10 v).drop 0).reverse.map (fun d => 48 + d)).map UInt8.ofNat = numStr false v) := text_bytes false HF.out
      go_enter Tryz.func109, Tryz.ntmps109
      go_wp2_with fail
      refine HT.out.mono ?_
      rintro e w' ⟨rfl, rfl⟩
      go_wp2
      go_loopw [5, 6] (fun out ix wr => ∃ (j c2 : Nat) (A2 : Option Addr), j ≤ m ∧ ix = .int .i64 ((j : Int) - 1) ∧ out = .slice A2 (m - j) c2 ∧ Own wr w.heap.size 5 .u8 A2 (m - j) c2 ([] ++ ((Dec.limbs 10 v).drop j).reverse.map (fun d => 48 + d)) ∧ Below w.heap.size w wr) (fun _ ix _ => (intOf ix + 1).toNat)
      case atStart => exact ⟨m, 0, none, Nat.le_refl _, rfl, by rw [Nat.sub_self], by rw [Nat.sub_self, List.drop_of_length_le (by rw [HL.out]; exact Nat.le_refl _)]; exact Own.nil _ _ _ _, Below.refl _ _⟩
      case round =>
        obtain ⟨j, c2, A2, hj, rfl, rfl, hown, hb⟩ := hrel
        by_cases hj0 : 0 < j
        · obtain ⟨b, o, rfl, _, hcx⟩ := (hsl.below hb).cells (by omega)
          have hcu := hcx (j - 1) (by omega)
          clear hcx
          have hu := getD_lt hsm (by omega) (j - 1)
          have HR := Lib.hid (drop_rev (l := Dec.limbs 10 v) hj0 (by rw [HL.out]; exact hj))
          generalize (Dec.limbs 10 v).getD (j - 1) 0 = u at hcu hu HR
          have hi1 : (0 : Int) ≤ (j : Int) - 1 := by omega
          have hi2 : (j : Int) - 1 < m := by omega
          have hi3 : ((j : Int) - 1).toNat = j - 1 := by omega
          have hw8 : IntKind.u8.wrap (48 + (u : Int)) = 48 + u := by rw [IntKind.wrap_u8]; omega
          go_wp2_with (at_builtin; refine wpList_app (w0 := w) rfl _ _ _ rfl 5 .u8 1 Tryz.underlying91 infoByte (by omega) _ _ _ _ rfl hown _ (48 + u) (by omega) rfl (by omega) hb ?_; intro A3 c3 w2 hown2 hb2 _ _ _)
          go_roundw
          case rel => exact ⟨j - 1, c3, A3, by omega, by go_num, by congr 1; omega, by rw [HR.out, ← List.append_assoc, show m - (j - 1) = m - j + 1 by omega]; exact hown2, hb2⟩
          case measure => simp only [intOf]; omega
        · have hjz : j = 0 := by omega
          subst hjz
          have hst := hown.sl.str (P := Tryz.prog) (by omega) 91 5 9 Tryz.underlying91 Tryz.underlying5 Tryz.underlying9
          rw [HG.out] at hst
          obtain ⟨S, hS⟩ : ∃ S : ByteArray, S = ⟨(numStr false v).toArray⟩ := ⟨_, rfl⟩
          rw [← hS] at hst
          have HS := Lib.hid hS
          clear hS
          simp only [Nat.sub_zero] at hst
          go_wp2
          go_ret
          exact ⟨by rw [← HS.out]; rfl, hb⟩
end Go.Proofs.YtgphkgmhcmffnaaGreatDoor
/- lispproverref1.times: the digits of the product. -/
namespace Go.Proofs.YtgphkgmhcmffnaaGreatDoor
open Go.RowKit

theorem digit_mul {u v : Nat} (hu : u < 10) (hv : v < 10) : (0 : Int) ≤ (u : Int) * v ∧ (u : Int) * v ≤ 81 := by
  have h : u * v ≤ 9 * 9 := Nat.mul_le_mul (by omega) (by omega)
  have e : ((u * v : Nat) : Int) = (u : Int) * v := by rw [Int.natCast_mul]
  omega
theorem cast_mod10 {z u v c : Nat} : ((z : Int) + c + (u : Int) * v) % 10 = (((z + u * v + c) % 10 : Nat) : Int) := by
  rw [Int.natCast_emod, Int.natCast_add, Int.natCast_add, Int.natCast_mul]
  congr 1; omega
theorem cast_div10 {z u v c : Nat} : ((z : Int) + c + (u : Int) * v) / 10 = (((z + u * v + c) / 10 : Nat) : Int) := by
  rw [Int.natCast_ediv, Int.natCast_add, Int.natCast_add, Int.natCast_mul]
  congr 1; omega

set_option maxHeartbeats 2000000 in
theorem refTimes_any (A A' : Option Addr) (n n' c c' : Nat) (x y : List Nat) (w : World) (hx : Sl w .i64 A n c x) (hy : Sl w .i64 A' n' c' y) (hn : n ≤ 100000000) (hn' : n' ≤ 100000000)
    (hsx : Dec.Small 10 x) (hsy : Dec.Small 10 y) :
    Calls Tryz.prog 124 #[.slice A n c, .slice A' n' c'] w (RetSl .i64 (Dec.limbs 10 (Dec.lval 10 x * Dec.lval 10 y)) w) := by
  go_enter Tryz.func124, Tryz.ntmps124
  go_wp2_with (at_make; refine wpList_mk (w0 := w) rfl _ _ _ rfl 3 .i64 8 Tryz.underlying75 infoInt (by omega) _ _ _ _ (n + n' + 1) rfl rfl (by omega) (by omega) (by omega) (Below.refl _ _) ?_; intro w1 hown1 hb1 _ _)
  go_loopw [6] (fun ix wr => ∃ (k : Nat) (L : List Nat), k ≤ n ∧ ix = .int .i64 k ∧ Own wr w.heap.size 3 .i64 (some ⟨w.heap.size, 0, none⟩) (n + n' + 1) (n + n' + 1) L ∧ Dec.Small 10 L ∧ Hid (Dec.lval 10 L = Dec.lval 10 (x.take k) * Dec.lval 10 y) ∧ Hid (∀ j, k + n' ≤ j → L.getD j 0 = 0) ∧ Below w.heap.size w wr) (fun ix _ => n - (intOf ix).toNat)
  case atStart => exact ⟨0, _, Nat.zero_le _, rfl, hown1, small_replicate _ _ (by omega), (by rw [lval_replicate, List.take_zero]; simp [Dec.lval] : Dec.lval 10 (List.replicate (n + n' + 1) 0) = Dec.lval 10 (x.take 0) * Dec.lval 10 y), (fun j _ => getD_replicate _ j : ∀ j, 0 + n' ≤ j → (List.replicate (n + n' + 1) 0).getD j 0 = 0), hb1⟩
  case round =>
    obtain ⟨k, L, hk, rfl, hown, hsL, HV, HZ, hb⟩ := hrel
    obtain ⟨wo, rfl⟩ : ∃ wo : World, wo = wr := ⟨_, rfl⟩
    by_cases hkn : k < n
    · obtain ⟨b, off, rfl, _, hcx⟩ := hx.cells (by omega)
      clear hcx
      have hu := getD_lt (l := x) hsx (by omega) k
      have HT := Lib.hid (Dec.times_outer (B := 10) (a := x) (b := y) (i := k) HV.out)
      generalize hu0 : x.getD k 0 = u at hu HT
      have HU0 := Lib.hid hu0
      clear hu0
      go_wp2
      go_loopw [7, 8] (fun cr jx wr => ∃ (m cy : Nat) (M : List Nat), m ≤ n' + 1 ∧ jx = .int .i64 m ∧ cr = .int .i64 cy ∧ cy < 10 ∧ (m = n' + 1 → cy = 0) ∧ Own wr w.heap.size 3 .i64 (some ⟨w.heap.size, 0, none⟩) (n + n' + 1) (n + n' + 1) M ∧ Dec.Small 10 M ∧ Hid (Dec.lval 10 M + 10 ^ (k + m) * cy = Dec.lval 10 L + 10 ^ k * (u * Dec.lval 10 (y.take m))) ∧ Hid (∀ j, k + n' ≤ j → k + m ≤ j → M.getD j 0 = 0) ∧ Below w.heap.size w wr) (fun _ jx _ => n' + 1 - (intOf jx).toNat)
      case atStart => exact ⟨0, 0, L, Nat.zero_le _, rfl, rfl, by omega, by omega, hown, hsL, (by simp [Dec.lval] : Dec.lval 10 L + 10 ^ (k + 0) * 0 = Dec.lval 10 L + 10 ^ k * (u * Dec.lval 10 (y.take 0))), (fun j hj _ => HZ.out j hj : ∀ j, k + n' ≤ j → k + 0 ≤ j → L.getD j 0 = 0), hb⟩
      case round =>
        obtain ⟨m, cy, M, hm, rfl, rfl, hcy, hmc, hownM, hsM, HM, HZM, hbM⟩ := hrel
        have HMC := Lib.hid hmc
        clear hmc
        have HLM := Lib.hid hownM.len
        by_cases hmn : m < n'
        · obtain ⟨b', off', rfl, _, hcy'⟩ := (hy.below hbM).cells (by omega)
          have hcv := hcy' m hmn
          clear hcy'
          obtain ⟨b2, off2, e2, _, hcx⟩ := (hx.below hbM).cells (by omega)
          have hcu := hcx k hkn
          rw [HU0.out] at hcu
          injection e2 with e2
          injection e2 with e21 e22
          subst e21 e22
          clear hcx
          have hv := getD_lt (l := y) hsy (by omega) m
          obtain ⟨hco, hfo, _, hgl⟩ := hownM.cellAt (i := k + m) (by omega)
          have hz := getD_lt (l := M) hsM (by omega) (k + m)
          have HR := Lib.hid (Dec.times_round (B := 10) (o := M) (b := y) (x := u) (i := k) (j := m) (by rw [HLM.out]; omega) HM.out rfl rfl)
          generalize M.getD (k + m) 0 = z at hco hz HR
          generalize y.getD m 0 = v at hcv hv HR
          obtain ⟨hp1, hp2⟩ := digit_mul hu hv
          have hfit := Dec.times_fits (B := 10) (by omega) hz hu hv hcy
          have v1 : IntKind.i64.wrap ((u : Int) * v) = (u : Int) * v := IntWalk.i64_in _ (by omega)
          have v2 : IntKind.i64.wrap ((z : Int) + cy + (u : Int) * v) = (z : Int) + cy + (u : Int) * v := IntWalk.i64_in _ (by omega)
          go_upto_region 11 with (fail)
          go_quiet (fail)
          clear v1 v2
          go_wp2
          go_roundw
          case rel =>
            refine ⟨m + 1, (z + u * v + cy) / 10, M.set (k + m) ((z + u * v + cy) % 10), by omega, by go_num, ?_, by omega, by omega, (hownM.drewN _).setInt ?_ rfl, hsM.set (by omega), HR.out, (fun j hj hj2 => by rw [getD_set_ne _ _ _ _ (by omega)]; exact HZM.out j hj (by omega) : ∀ j, k + n' ≤ j → k + (m + 1) ≤ j → (M.set (k + m) ((z + u * v + cy) % 10)).getD j 0 = 0), (below_drewN hbM _).setCell (p := ⟨w.heap.size, k + m, none⟩) (Nat.le_refl _) _⟩
            · rw [cast_div10]
            · rw [cast_mod10]
          case measure => simp only [intOf]; omega
        · by_cases hc0 : 0 < cy
          · have hmm : m = n' := by
              rcases Nat.lt_or_ge n' m with h | h
              · have := HMC.out (by omega); omega
              · omega
            subst hmm
            obtain ⟨hco, hfo, _, hgl⟩ := hownM.cellAt (i := k + m) (by omega)
            have HR : Hid (Dec.lval 10 (M.set (k + m) cy) + 10 ^ (k + (m + 1)) * 0 = Dec.lval 10 L + 10 ^ k * (u * Dec.lval 10 (y.take (m + 1)))) := by
              have hly := hy.len
              subst hly
              have h := Dec.times_row (B := 10) (s := Dec.lval 10 L) (by rw [HLM.out]; omega) (HZM.out _ (Nat.le_refl _) (Nat.le_refl _)) HM.out
              show _ = _
              rw [List.take_of_length_le (by omega), Nat.mul_zero, Nat.add_zero]
              exact h
            rw [HZM.out _ (Nat.le_refl _) (Nat.le_refl _)] at hco
            go_wp2
            go_roundw
            case rel =>
              refine ⟨m + 1, 0, M.set (k + m) cy, by omega, by go_num, ?_, by omega, fun _ => rfl, hownM.setInt ?_ rfl, hsM.set hcy, HR.out, (fun j hj hj2 => by rw [getD_set_ne _ _ _ _ (by omega)]; exact HZM.out j hj (by omega) : ∀ j, k + m ≤ j → k + (m + 1) ≤ j → (M.set (k + m) cy).getD j 0 = 0), hbM.setCell (p := ⟨w.heap.size, k + m, none⟩) (Nat.le_refl _) _⟩
              · congr 1; omega
              · omega
            case measure => simp only [intOf]; omega
          · have hcz : cy = 0 := by omega
            subst hcz
            have HR : Hid (Dec.lval 10 M = Dec.lval 10 (x.take (k + 1)) * Dec.lval 10 y) := by
              have h := HM.out
              rw [List.take_of_length_le (by rw [hy.len]; omega), Nat.mul_zero, Nat.add_zero] at h
              exact h.trans HT.out
            go_wp2
            go_roundw
            case rel => exact ⟨k + 1, M, by omega, by go_num, hownM, hsM, HR.out, (fun j hj => HZM.out j (by omega) (by omega) : ∀ j, k + 1 + n' ≤ j → M.getD j 0 = 0), hbM⟩
            case measure => simp only [intOf]; omega
    · have hkk : k = n := by omega
      subst hkk
      have hsl := hown.sl
      go_wp2_with fail
      refine (refTrim_any _ _ _ _ _ hsl (by omega)).mono ?_
      rintro e w' ⟨rfl, rfl⟩
      go_wp2
      go_ret
      refine ⟨_, _, _, rfl, ?_, hb, hown.fresh⟩
      have := hsl.trimmed (B := 10) (by omega) hsL
      rw [HV.out, List.take_of_length_le (by rw [hx.len]; omega)] at this
      exact this
end Go.Proofs.YtgphkgmhcmffnaaGreatDoor
/- lispproverref1.over: quotient and remainder of two absolute values. -/
namespace Go.Proofs.YtgphkgmhcmffnaaGreatDoor
open Go.RowKit

theorem lval_cons10 (u R : Nat) : Dec.lval 10 ([u] ++ Dec.limbs 10 R) = u + 10 * R := by
  show u + 10 * Dec.lval 10 (Dec.limbs 10 R) = _
  rw [Dec.lval_limbs (by omega)]
theorem small_cons10 {u : Nat} (hu : u < 10) (R : Nat) : Dec.Small 10 ([u] ++ Dec.limbs 10 R) := Dec.Small.cons hu (Dec.limbs_small (by omega) R)
theorem div_step10 {a b R u j : Nat} {q : List Nat} (hj : 0 < j) (hja : j ≤ (Dec.limbs 10 a).length) (hjq : j ≤ q.length) (hu : (Dec.limbs 10 a).getD (j - 1) 0 = u)
    (h : Dec.lval 10 ((Dec.limbs 10 a).drop j) = Dec.lval 10 (q.drop j) * b + R) :
    Dec.lval 10 ((Dec.limbs 10 a).drop (j - 1)) = Dec.lval 10 ((q.set (j - 1) ((u + 10 * R) / b)).drop (j - 1)) * b + (u + 10 * R) % b := by
  obtain ⟨m, rfl⟩ : ∃ m, j = m + 1 := ⟨j - 1, by omega⟩
  rw [Nat.add_sub_cancel] at hu ⊢
  rw [set_drop _ _ _ (by omega), Dec.lval_drop _ _ m (by omega), hu, Dec.lval]
  exact Dec.div_round h
theorem refTrim_same (A : Option Addr) (n c : Nat) (l : List Nat) (w : World) (h : Sl w .i64 A n c l) (hn : n ≤ 1000000000) :
    Calls Tryz.prog 129 #[.slice A n c] w fun e w' => e = .returned (.slice A (Dec.trimZ l).length c) ∧ w' = w :=
  (refTrim_any A n c l w h hn).mono fun _ _ h => ⟨h.1, h.2.symm⟩
def RetOver (a b : Nat) (w : World) (e : Ending) (w' : World) : Prop :=
  ∃ A n c A' n' c', e = .returned (.tuple #[.slice A n c, .slice A' n' c']) ∧ Sl w' .i64 A n c (Dec.limbs 10 (a / b)) ∧ Sl w' .i64 A' n' c' (Dec.limbs 10 (a % b)) ∧ Below w.heap.size w w'

theorem set_zero {q : List Nat} {i : Nat} (hz : q.getD i 0 = 0) : q.set i 0 = q := by
  apply List.ext_getElem?
  intro k
  by_cases h : i = k
  · subst h
    by_cases hi : i < q.length
    · rw [List.getElem?_set_self hi, List.getElem?_eq_getElem hi]
      rw [List.getD_eq_getElem?_getD, List.getElem?_eq_getElem hi] at hz
      simpa using hz.symm
    · rw [List.getElem?_eq_none (by simpa using hi), List.getElem?_eq_none (by omega)]
  · rw [List.getElem?_set_ne h]
theorem below_apps1 {wr w2 : World} {o : Obj} (hblk : ∀ g, g < (wr.alloc o).heap.size → (some ⟨wr.heap.size, 0, none⟩ : Option Addr) ≠ some ⟨g, 0, none⟩ → w2.heap[g]? = (wr.alloc o).heap[g]?) (hsz : (wr.alloc o).heap.size ≤ w2.heap.size)
    (hos : w2.os = (wr.alloc o).os) (htp : w2.tape = (wr.alloc o).tape) (hou : w2.output = (wr.alloc o).output) : Below wr.heap.size wr w2 :=
  ⟨hos, htp, hou, by have : (wr.alloc o).heap.size = wr.heap.size + 1 := by simp
                     omega, fun g hg => (hblk g (by simp; omega) (by intro e; injection e with e; injection e with e; omega)).trans (Below.heap_alloc wr _ g hg)⟩
theorem over_step {R' R2 b t : Nat} (hb0 : 0 < b) (h : R2 + t * b = R') (hlt : R2 < b) : t = R' / b ∧ R2 = R' % b := by
  subst h
  exact ⟨by rw [Nat.add_mul_div_right _ _ hb0, Nat.div_eq_of_lt hlt, Nat.zero_add], by rw [Nat.add_mul_mod_self_right, Nat.mod_eq_of_lt hlt]⟩
theorem set_set (q : List Nat) (i x y : Nat) : (q.set i x).set i y = q.set i y := List.set_set x
theorem getD_set_self {q : List Nat} {i x : Nat} (h : i < q.length) : (q.set i x).getD i 0 = x := by
  rw [List.getD_eq_getElem?_getD, List.getElem?_set_self h]; rfl

set_option maxHeartbeats 2000000 in
set_option maxRecDepth 100000 in
theorem refOver_any (A A' : Option Addr) (n n' c c' a b : Nat) (w : World) (hx : Sl w .i64 A n c (Dec.limbs 10 a)) (hy : Sl w .i64 A' n' c' (Dec.limbs 10 b)) (hn : n ≤ 2500000) (hn' : n' ≤ 2500000) (hb0 : 0 < b) :
    Calls Tryz.prog 108 #[.slice A n c, .slice A' n' c'] w (RetOver a b w) := by
  have HLx := Lib.hid hx.len
  have HLy := Lib.hid hy.len
  go_enter Tryz.func108, Tryz.ntmps108
  go_wp2_with (at_make; refine wpList_mk (w0 := w) rfl _ _ _ rfl 3 .i64 8 Tryz.underlying75 infoInt (by omega) _ _ _ _ n rfl rfl (by omega) (by omega) (by omega) (Below.refl _ _) ?_; intro w1 hown1 hb1 hbW1 hsz1)
  go_loopw [7, 8] (fun rv ix wr => ∃ (j R nr cr : Nat) (Ar : Option Addr) (q : List Nat), j ≤ n ∧ ix = .int .i64 ((j : Int) - 1) ∧ rv = .slice Ar nr cr ∧ Sl wr .i64 Ar nr cr (Dec.limbs 10 R) ∧ Hid (∀ b o, Ar = some ⟨b, o, none⟩ → b ≠ w.heap.size) ∧ R < b ∧ Own wr w.heap.size 3 .i64 (some ⟨w.heap.size, 0, none⟩) n n q ∧ Dec.Small 10 q ∧ Hid (∀ i, i < j → q.getD i 0 = 0) ∧ Hid (Dec.lval 10 ((Dec.limbs 10 a).drop j) = Dec.lval 10 (q.drop j) * b + R) ∧ Below w.heap.size w wr) (fun _ ix _ => (intOf ix + 1).toNat)
  case atStart =>
    refine ⟨n, 0, 0, 0, none, List.replicate n 0, Nat.le_refl _, rfl, rfl, Sl.nil _ _ _ _, Lib.hid (fun _ _ e => by cases e), hb0, hown1, small_replicate _ _ (by omega), Lib.hid (fun i _ => getD_replicate n i), Lib.hid ?_, hb1⟩
    rw [List.drop_of_length_le (by rw [HLx.out]; exact Nat.le_refl _), List.drop_of_length_le (by simp)]; simp [Dec.lval]
  case round =>
    obtain ⟨j, R, nr, cr, Ar, q, hj, rfl, rfl, hsr, HA, hR, hown, hsq, HZ, HV, hb⟩ := hrel
    obtain ⟨wo, rfl⟩ : ∃ wo : World, wo = wr := ⟨_, rfl⟩
    have HLr := Lib.hid hsr.len
    have hnr : nr ≤ n' := by
      rw [← HLr.out, ← HLy.out]; exact Dec.limbs_length_mono (by omega) (by omega)
    by_cases hj0 : 0 < j
    · obtain ⟨bx, ox, rfl, hbx, hcx⟩ := (hx.below hb).cells (by omega)
      have hcu := hcx (j - 1) (by omega)
      clear hcx
      have hu := getD_lt (l := Dec.limbs 10 a) (Dec.limbs_small (by omega) a) (by omega) (j - 1)
      generalize hu0 : (Dec.limbs 10 a).getD (j - 1) 0 = u at hcu hu
      have HU0 := Lib.hid hu0
      clear hu0
      have HQL := Lib.hid hown.len
      have HST := Lib.hid (div_step10 (b := b) hj0 (by rw [HLx.out]; exact hj) (by rw [HQL.out]; exact hj) HU0.out HV.out)
      have hdg : (u + 10 * R) / b < 10 := Dec.div_digit hu hR
      obtain ⟨R', hR'⟩ : ∃ R', R' = u + 10 * R := ⟨_, rfl⟩
      rw [← hR'] at HST hdg
      have HR' := Lib.hid hR'
      clear hR'
      have hi1 : (0 : Int) ≤ (j : Int) - 1 := by omega
      have hi2 : (j : Int) - 1 < n := by omega
      have hi3 : ((j : Int) - 1).toNat = j - 1 := by omega
      have hoW : Own (wo.alloc (.cells #[.int .i64 (u : Int)] 3)) wo.heap.size 3 .i64 (some ⟨wo.heap.size, 0, none⟩) 1 1 [u] := ⟨⟨rfl, .inr ⟨wo.heap.size, 1, #[.int .i64 (u : Int)], rfl, Nat.le_refl _, heap_alloc_new wo _, Nat.le_refl _, by unfold maxLen; omega, rfl, rfl⟩⟩⟩
      have hsW : Sl (wo.alloc (.cells #[.int .i64 (u : Int)] 3)) .i64 Ar nr cr (Dec.limbs 10 R) := hsr.alloc _
      go_wp2_with (at_builtin; refine wpList_apps rfl _ _ _ rfl wo.heap.size 3 .i64 8 Tryz.underlying75 infoInt (by omega) _ _ _ [u] rfl hoW _ _ _ _ rfl hsW (by omega) (by simp) ?_; intro A2 cc2 w2 hown2 hblk2 hsz2 hos2 htp2 hou2)
      have hbw2 := below_apps1 hblk2 hsz2 hos2 htp2 hou2
      clear hblk2 hsz2 hos2 htp2 hou2
      refine (refTrim_any A2 (1 + nr) cc2 _ w2 hown2.sl (by omega)).mono ?_
      rintro e w3 ⟨rfl, rfl⟩
      have hsl2 := hown2.sl.trimmed (B := 10) (by omega) (small_cons10 hu R)
      rw [lval_cons10, ← HR'.out] at hsl2
      have hfr := hown2.fresh
      have hq1 := (hown.lt rfl).2
      have htl := trimZ_length_le ([u] ++ Dec.limbs 10 R)
      rw [List.length_append, HLr.out, List.length_singleton] at htl
      generalize (Dec.trimZ ([u] ++ Dec.limbs 10 R)).length = n2 at hsl2 htl
      have hw2 := hb.trans (hbw2.mono hb.size)
      have hownx := hown.below hbw2
      have HQ0 := Lib.hid (set_zero (HZ.out (j - 1) (by omega)))
      rw [← HQ0.out] at hownx
      have HA2 : Hid (∀ b o, A2 = some ⟨b, o, none⟩ → b ≠ w.heap.size) := fun b o e => by have := hfr b o e; omega
      clear hfr hown2 hoW hsW HA hsr hcu
      go_wp2_with fail
      go_loopg [7] R' (fun kx rv wr => ∃ (t R2 n3 c3 : Nat) (A3 : Option Addr), t ≤ R' / b ∧ Hid (R2 + t * b = R') ∧ rv = .slice A3 n3 c3 ∧ Sl wr .i64 A3 n3 c3 (Dec.limbs 10 R2) ∧ n3 ≤ n' + 1 ∧ Hid (∀ b o, A3 = some ⟨b, o, none⟩ → b ≠ w.heap.size) ∧ Own wr w.heap.size 3 .i64 (some ⟨w.heap.size, 0, none⟩) n n (q.set (j - 1) t) ∧ R2 ≤ kx ∧ Below w.heap.size w wr)
      case atStart => exact ⟨0, R', n2, cc2, A2, Nat.zero_le _, Lib.hid (by omega), rfl, hsl2, by omega, HA2, hownx, Nat.le_refl _, hw2⟩
      case round =>
        obtain ⟨t, R2, n3, c3, A3, ht, HT, rfl, hs3, hn3, HA3, hown3, hk3, hb3⟩ := hrel
        have HCm := Lib.hid (orderR_any 10 (by omega) A3 A' n3 n' c3 c' R2 b wr hs3 (hy.below hb3) (by omega) (by omega))
        by_cases hge : R2 < b
        · have HO := Lib.hid (ordI_lt hge)
          have HE := Lib.hid (over_step hb0 HT.out hge)
          go_wp2_with (go_at_call 122; refine HCm.out.mono ?_; rintro e w2 ⟨rfl, qq, rfl⟩; rw [HO.out])
          go_roundw
          case rel =>
            refine ⟨j - 1, R2, n3, c3, A3, q.set (j - 1) t, by omega, by go_num, rfl, hs3.drew qq, HA3, hge, hown3.drewN qq, hsq.set (by omega), Lib.hid (fun i hi => by rw [getD_set_ne _ _ _ _ (by omega)]; exact HZ.out i (by omega)), ?_, below_drewN hb3 qq⟩
            have h := HST.out
            rw [← HE.out.1, ← HE.out.2] at h
            exact Lib.hid h
          case measure => simp only [intOf]; omega
        · have hz : 0 ≤ ordI R2 b := by
            rcases Nat.lt_or_ge b R2 with h | h
            · rw [ordI_gt h]; omega
            · obtain rfl : R2 = b := by omega
              rw [ordI_eq]; omega
          have ht1 : t + 1 ≤ R' / b := by
            rw [Nat.le_div_iff_mul_le hb0, ← HT.out, Nat.add_mul]; omega
          have hln : n' ≤ n3 := by rw [← HLy.out, ← hs3.len]; exact Dec.limbs_length_mono (by omega) (by omega)
          have HM : Hid (∀ qq : Nat, Calls Tryz.prog 123 #[.slice A3 n3 c3, .slice A' n' c'] (wr.drewN qq) (RetSl .i64 (Dec.limbs 10 (R2 - b)) (wr.drewN qq))) := fun qq => by
            have := refMinus_any A3 A' n3 n' c3 c' _ _ (wr.drewN qq) (hs3.drew qq) ((hy.below hb3).drew qq) (by omega) hln (Dec.limbs_small (by omega) _) (Dec.limbs_small (by omega) _) (by rw [Dec.lval_limbs (by omega), Dec.lval_limbs (by omega)]; omega)
            rwa [Dec.lval_limbs (by omega), Dec.lval_limbs (by omega)] at this
          have hll : (Dec.limbs 10 (R2 - b)).length ≤ n3 := by rw [← hs3.len]; exact Dec.limbs_length_mono (by omega) (by omega)
          have HOr := Lib.hid hown3
          have hl3 := (hown3.lt rfl).2
          go_wp2_with (go_at_call 122; refine HCm.out.mono ?_; rintro e w2 ⟨rfl, qq, rfl⟩)
          refine (HM.out _).mono ?_
          rintro e w4 ⟨A4, n4, c4, rfl, hs4, hb4, hf4⟩
          have hn4 : n4 ≤ n3 := by rw [← hs4.len]; exact hll
          have hb4' := (below_drewN hb3 qq).trans (hb4.mono (below_drewN hb3 qq).size)
          have hown4 := (HOr.out.drewN qq).below hb4
          obtain ⟨hco, hfo, _, hgl⟩ := hown4.cellAt (i := j - 1) (by omega)
          rw [getD_set_self (by rw [HQL.out]; omega)] at hco
          have HA4 : Hid (∀ b o, A4 = some ⟨b, o, none⟩ → b ≠ w.heap.size) := fun b o e => by have h1 := hf4 b o e; have h2 : (wr.drewN qq).heap.size = wr.heap.size := rfl; omega
          clear hf4
          go_wp2
          go_roundg (R2 - b)
          case measure => omega
          case rel =>
            refine ⟨t + 1, R2 - b, n4, c4, A4, ht1, Lib.hid (by have := HT.out; rw [Nat.add_mul]; omega), rfl, hs4.far (p := ⟨w.heap.size, j - 1, none⟩) (fun b o e => HA4.out b o e) _, by omega, HA4, ?_, Nat.le_refl _, hb4'.setCell (p := ⟨w.heap.size, j - 1, none⟩) (Nat.le_refl _) _⟩
            exact hown4.setInt (y := t + 1) (by omega) (set_set _ _ _ _)
    · have hjz : j = 0 := by omega
      subst hjz
      have HQ : Hid (Dec.lval 10 q = a / b ∧ R = a % b) := by
        have h := HV.out
        rw [List.drop_zero, List.drop_zero, Dec.lval_limbs (by omega)] at h
        show _ ∧ _
        rw [h]
        exact ⟨by rw [Nat.add_comm, Nat.add_mul_div_right _ _ hb0, Nat.div_eq_of_lt hR, Nat.zero_add], by rw [Nat.add_comm, Nat.add_mul_mod_self_right, Nat.mod_eq_of_lt hR]⟩
      have hslq := hown.sl
      go_wp2_with fail
      refine (refTrim_any _ _ _ _ _ hslq (by omega)).mono ?_
      rintro e w3 ⟨rfl, rfl⟩
      go_wp2
      go_ret2
      refine ⟨_, _, _, _, _, _, rfl, ?_, ?_, hb⟩
      · have := hslq.trimmed (B := 10) (by omega) hsq
        rw [HQ.out.1] at this
        exact this
      · rw [← HQ.out.2]; exact hsr
end Go.Proofs.YtgphkgmhcmffnaaGreatDoor
