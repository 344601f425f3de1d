/- lispproverref1.text: the decimal of a sign and digits. -/
import Derived.Test.YtjefhgmnjfclaaaDoorRefD
import Derived.Laws.BytesArg
namespace Go.Proofs.YtjefhgmnjfclaaaDoor
open Go.RowKit

theorem Sl.str {P : Program} {w : World} {A : Option Addr} {n c : Nat} {l : List Nat} (h : Sl w .u8 A n c l) (hn : 0 < n) (src e dst : TypeId) (hs : P.underlying src = some (.slice e)) (he : P.underlying e = some (.int .u8)) (hd : P.underlying dst = some .string) :
    (convert src dst (.slice A n c)).run P w = .ok (.string ⟨(l.map UInt8.ofNat).toArray⟩) w := by
  obtain ⟨b, o, rfl, _, hc⟩ := h.cells hn
  have := run_convert_bytes_arg (P := P) w src e hs he b o n c (l.map fun (x : Nat) => (x : Int)) (by rw [List.length_map, h.len]) (fun i hi => by
    rw [hc i hi, List.getD_eq_getElem?_getD, List.getD_eq_getElem?_getD, List.getElem?_map, List.getElem?_eq_getElem (by rw [h.len]; exact hi)]; rfl) dst hd
  rw [this]
  simp [strOfNums]

theorem text_bytes (ng : Bool) {v : Nat} (hv : v ≠ 0) : ((if ng then [45] else []) ++ ((Dec.limbs 10 v).drop 0).reverse.map (fun d => 48 + d)).map UInt8.ofNat = numStr ng v := by
  unfold numStr
  rw [itoa_sign ng hv, List.map_append, List.drop_zero, List.map_map, ← Dec.limbs10_decDigits hv]
  cases ng <;> rfl
theorem drop_rev {l : List Nat} {j : Nat} (h0 : 0 < j) (hj : j ≤ l.length) : ((l.drop (j - 1)).reverse.map fun d => 48 + d) = ((l.drop j).reverse.map fun d => 48 + d) ++ [48 + l.getD (j - 1) 0] := by
  obtain ⟨m, rfl⟩ : ∃ m, j = m + 1 := ⟨j - 1, by omega⟩
  rw [Nat.add_sub_cancel, List.drop_eq_getElem_cons (by omega), List.reverse_cons, List.map_append, List.getD_eq_getElem?_getD, List.getElem?_eq_getElem (by omega)]
  rfl

set_option maxHeartbeats 1000000 in
set_option maxRecDepth 100000 in
theorem refText_any (ng : Bool) (A : Option Addr) (n c : Nat) (x : List Nat) (w : World) (hx : Sl w .i64 A n c x) (hn : n ≤ 100000000) (hs : Dec.Small 10 x) :
    Calls Tryd.prog 45 #[.bool ng, .slice A n c] w (RetStr (numStr ng (Dec.lval 10 x)) w) := by
  have HT := Lib.hid (refTrim_any A n c x w hx (by omega))
  have hsl := hx.trimmed (B := 10) (by omega) hs
  have htl := trimZ_length_le x
  have hxl := hx.len
  have HL := Lib.hid hsl.len
  generalize (Dec.trimZ x).length = m at HT hsl htl HL
  generalize Dec.lval 10 x = v at hsl HL
  have hm : m ≤ 100000000 := by omega
  clear htl hxl
  by_cases h0 : v = 0
  · subst h0
    have hm0 : m = 0 := by rw [← HL.out]; rfl
    subst hm0
    rw [numStr_zero]
    go_enter Tryd.func45, Tryd.ntmps45
    go_wp2_with fail
    refine HT.out.mono ?_
    rintro e w' ⟨rfl, rfl⟩
    go_wp2
    go_ret
    exact ⟨rfl, Below.refl _ _⟩
  · have hmp : 0 < m := by
      rcases Nat.eq_zero_or_pos m with e | e
      · exact absurd ((Dec.limbs_eq_nil (B := 10) (by omega)).1 (List.eq_nil_of_length_eq_zero (by rw [HL.out]; exact e))) h0
      · exact e
    have hm0 : ((m : Int) == 0) = false := by rw [beq_eq_false_iff_ne]; omega
    have HF := Lib.hid h0
    clear h0
    have hsm := Dec.limbs_small (B := 10) (by omega) v
    cases ng with
    | true =>
      have HG : Hid (([45] ++ ((Dec.limbs 10 v).drop 0).reverse.map (fun d => 48 + d)).map UInt8.ofNat = numStr true v) := text_bytes true HF.out
      go_enter Tryd.func45, Tryd.ntmps45
      go_wp2_with fail
      refine HT.out.mono ?_
      rintro e w' ⟨rfl, rfl⟩
      go_wp2_with (at_builtin; refine wpList_app (w0 := w) rfl _ _ _ rfl 5 .u8 1 Tryd.underlying71 infoByte (by omega) _ _ _ [] rfl (Own.nil _ _ _ _) _ 45 (by omega) rfl (by omega) (Below.refl _ _) ?_; intro A1 c1 w1 hown1 hb1 _ _ _)
      go_loopw [5, 6] (fun out ix wr => ∃ (j c2 : Nat) (A2 : Option Addr), j ≤ m ∧ ix = .int .i64 ((j : Int) - 1) ∧ out = .slice A2 (1 + (m - j)) c2 ∧ Own wr w.heap.size 5 .u8 A2 (1 + (m - j)) c2 ([45] ++ ((Dec.limbs 10 v).drop j).reverse.map (fun d => 48 + d)) ∧ Below w.heap.size w wr) (fun _ ix _ => (intOf ix + 1).toNat)
      case atStart => exact ⟨m, c1, A1, Nat.le_refl _, rfl, by rw [Nat.sub_self], by rw [Nat.sub_self, List.drop_of_length_le (by rw [HL.out]; exact Nat.le_refl _)]; exact hown1, hb1⟩
      case round =>
        obtain ⟨j, c2, A2, hj, rfl, rfl, hown, hb⟩ := hrel
        by_cases hj0 : 0 < j
        · obtain ⟨b, o, rfl, _, hcx⟩ := (hsl.below hb).cells (by omega)
          have hcu := hcx (j - 1) (by omega)
          clear hcx
          have hu := getD_lt hsm (by omega) (j - 1)
          have HR := Lib.hid (drop_rev (l := Dec.limbs 10 v) hj0 (by rw [HL.out]; exact hj))
          generalize (Dec.limbs 10 v).getD (j - 1) 0 = u at hcu hu HR
          have hi1 : (0 : Int) ≤ (j : Int) - 1 := by omega
          have hi2 : (j : Int) - 1 < m := by omega
          have hi3 : ((j : Int) - 1).toNat = j - 1 := by omega
          have hw8 : IntKind.u8.wrap (48 + (u : Int)) = 48 + u := by rw [IntKind.wrap_u8]; omega
          go_wp2_with (at_builtin; refine wpList_app (w0 := w) rfl _ _ _ rfl 5 .u8 1 Tryd.underlying71 infoByte (by omega) _ _ _ _ rfl hown _ (48 + u) (by omega) rfl (by omega) hb ?_; intro A3 c3 w2 hown2 hb2 _ _ _)
          go_roundw
          case rel => exact ⟨j - 1, c3, A3, by omega, by go_num, by congr 1; omega, by rw [HR.out, ← List.append_assoc, show 1 + (m - (j - 1)) = 1 + (m - j) + 1 by omega]; exact hown2, hb2⟩
          case measure => simp only [intOf]; omega
        · have hjz : j = 0 := by omega
          subst hjz
          have hst := hown.sl.str (P := Tryd.prog) (by omega) 71 5 9 Tryd.underlying71 Tryd.underlying5 Tryd.underlying9
          rw [HG.out] at hst
          obtain ⟨S, hS⟩ : ∃ S : ByteArray, S = ⟨(numStr true v).toArray⟩ := ⟨_, rfl⟩
          rw [← hS] at hst
          have HS := Lib.hid hS
          clear hS
          simp only [Nat.sub_zero] at hst
          go_wp2
          go_ret
          exact ⟨by rw [← HS.out]; rfl, hb⟩
    | false =>
      have HG : Hid (([] ++ ((Dec.limbs 10 v).drop 0).reverse.map (fun d => 48 + d)).map UInt8.ofNat = numStr false v) := text_bytes false HF.out
      go_enter Tryd.func45, Tryd.ntmps45
      go_wp2_with fail
      refine HT.out.mono ?_
      rintro e w' ⟨rfl, rfl⟩
      go_wp2
      go_loopw [5, 6] (fun out ix wr => ∃ (j c2 : Nat) (A2 : Option Addr), j ≤ m ∧ ix = .int .i64 ((j : Int) - 1) ∧ out = .slice A2 (m - j) c2 ∧ Own wr w.heap.size 5 .u8 A2 (m - j) c2 ([] ++ ((Dec.limbs 10 v).drop j).reverse.map (fun d => 48 + d)) ∧ Below w.heap.size w wr) (fun _ ix _ => (intOf ix + 1).toNat)
      case atStart => exact ⟨m, 0, none, Nat.le_refl _, rfl, by rw [Nat.sub_self], by rw [Nat.sub_self, List.drop_of_length_le (by rw [HL.out]; exact Nat.le_refl _)]; exact Own.nil _ _ _ _, Below.refl _ _⟩
      case round =>
        obtain ⟨j, c2, A2, hj, rfl, rfl, hown, hb⟩ := hrel
        by_cases hj0 : 0 < j
        · obtain ⟨b, o, rfl, _, hcx⟩ := (hsl.below hb).cells (by omega)
          have hcu := hcx (j - 1) (by omega)
          clear hcx
          have hu := getD_lt hsm (by omega) (j - 1)
          have HR := Lib.hid (drop_rev (l := Dec.limbs 10 v) hj0 (by rw [HL.out]; exact hj))
          generalize (Dec.limbs 10 v).getD (j - 1) 0 = u at hcu hu HR
          have hi1 : (0 : Int) ≤ (j : Int) - 1 := by omega
          have hi2 : (j : Int) - 1 < m := by omega
          have hi3 : ((j : Int) - 1).toNat = j - 1 := by omega
          have hw8 : IntKind.u8.wrap (48 + (u : Int)) = 48 + u := by rw [IntKind.wrap_u8]; omega
          go_wp2_with (at_builtin; refine wpList_app (w0 := w) rfl _ _ _ rfl 5 .u8 1 Tryd.underlying71 infoByte (by omega) _ _ _ _ rfl hown _ (48 + u) (by omega) rfl (by omega) hb ?_; intro A3 c3 w2 hown2 hb2 _ _ _)
          go_roundw
          case rel => exact ⟨j - 1, c3, A3, by omega, by go_num, by congr 1; omega, by rw [HR.out, ← List.append_assoc, show m - (j - 1) = m - j + 1 by omega]; exact hown2, hb2⟩
          case measure => simp only [intOf]; omega
        · have hjz : j = 0 := by omega
          subst hjz
          have hst := hown.sl.str (P := Tryd.prog) (by omega) 71 5 9 Tryd.underlying71 Tryd.underlying5 Tryd.underlying9
          rw [HG.out] at hst
          obtain ⟨S, hS⟩ : ∃ S : ByteArray, S = ⟨(numStr false v).toArray⟩ := ⟨_, rfl⟩
          rw [← hS] at hst
          have HS := Lib.hid hS
          clear hS
          simp only [Nat.sub_zero] at hst
          go_wp2
          go_ret
          exact ⟨by rw [← HS.out]; rfl, hb⟩
end Go.Proofs.YtjefhgmnjfclaaaDoor
