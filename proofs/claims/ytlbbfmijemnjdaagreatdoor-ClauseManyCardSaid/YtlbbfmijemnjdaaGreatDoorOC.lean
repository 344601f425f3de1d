/- (number.integer).String: the numeral of an integer. -/
import Derived.Test.YtlbbfmijemnjdaaGreatDoorOB
import Derived.Test.YtlbbfmijemnjdaaGreatDoorOA
import Derived.Deep.RegionHeld3
import Derived.Maps.AppendAt
import Derived.Deep.RegionLaw
import Derived.Deep.DeepCutAuto
namespace Go.Proofs.YtlbbfmijemnjdaaGreatDoor
open Go.RowKit

theorem zeros_cut (k : Nat) (hk : k ≤ 9) : ((⟨#[48, 48, 48, 48, 48, 48, 48, 48, 48]⟩ : ByteArray).extract k 9).data.toList = List.replicate (9 - k) 48 := by
  rw [Lib.extract_data]
  have : ∀ j : Fin 10, ((([48, 48, 48, 48, 48, 48, 48, 48, 48] : List UInt8).drop j.val).take (9 - j.val)) = List.replicate (9 - j.val) 48 := by decide
  exact this ⟨k, by omega⟩
theorem lval_ne_zero {B : Nat} (hB : 2 ≤ B) : ∀ (l : List Nat) (h : l ≠ []), l.getLast h ≠ 0 → Dec.lval B l ≠ 0
  | [], h, _ => absurd rfl h
  | [x], _, hl => by simpa [Dec.lval] using hl
  | x :: y :: r, _, hl => by
    have := lval_ne_zero hB (y :: r) (by simp) (by simpa using hl)
    simp only [Dec.lval] at this ⊢
    have h2 : 0 < B * (y + B * Dec.lval B r) := Nat.mul_pos (by omega) (by omega)
    omega
theorem drop_ne_zero {B v j : Nat} (hB : 2 ≤ B) (hj : j < (Dec.limbs B v).length) : Dec.lval B ((Dec.limbs B v).drop j) ≠ 0 := by
  have hne : (Dec.limbs B v).drop j ≠ [] := by intro e; have := congrArg List.length e; rw [List.length_drop] at this; simp at this; omega
  refine lval_ne_zero hB _ hne ?_
  rw [List.getLast_drop]
  exact Dec.limbs_getLast hB v _
/-- one limb more -/
theorem digits_round {v j : Nat} (h0 : 0 < j) (hj : j < (Dec.limbs 1000000000 v).length) :
    Lib.decDigits (Dec.lval 1000000000 ((Dec.limbs 1000000000 v).drop (j - 1))) = Lib.decDigits (Dec.lval 1000000000 ((Dec.limbs 1000000000 v).drop j)) ++ (List.replicate (9 - (Lib.decDigits ((Dec.limbs 1000000000 v).getD (j - 1) 0)).length) 48 ++ Lib.decDigits ((Dec.limbs 1000000000 v).getD (j - 1) 0)) := by
  obtain ⟨m, rfl⟩ : ∃ m, j = m + 1 := ⟨j - 1, by omega⟩
  rw [Nat.add_sub_cancel, Dec.lval_drop _ _ m (by omega), Dec.decDigits_cat (drop_ne_zero (by omega) hj) ((Dec.limbs_small (by omega) v).getD (by omega) m)]
  rfl
def signOf (ng : Bool) : List UInt8 := if ng then [45] else []
theorem itoa_sign (ng : Bool) {v : Nat} (hv : v ≠ 0) : Lib.itoa (if ng then -(v : Int) else v) = signOf ng ++ Lib.decDigits v := by
  cases ng
  · simp [signOf, Dec.itoa_pos]
  · simp [signOf, Dec.itoa_neg' hv]
theorem fresh_builder (w : World) (T e : TypeId) : Lib.IsBuilder T e w.heap.size w.heap.size (Lib.byteCells []) (w.alloc (.cells #[.pointer none, .slice none 0 0] T)) :=
  .inl ⟨Nat.le_refl _, .slice none 0 0, heap_alloc_new w _, World.ownsRow_nil _ _ _ _, by simp [Value.ownBlock]⟩

def numStr (ng : Bool) (v : Nat) : List UInt8 := Lib.itoa (if ng then -(v : Int) else v)
def RetStr (l : List UInt8) (w : World) (e : Ending) (w' : World) : Prop := e = .returned (.string ⟨l.toArray⟩) ∧ Below w.heap.size w w'
theorem signOf_length (ng : Bool) : (signOf ng).length ≤ 1 := by cases ng <;> simp [signOf]
theorem numStr_zero (ng : Bool) : numStr ng 0 = [48] := by cases ng <;> exact Dec.itoa_zero
theorem isBuilder_below {T e : TypeId} {B b : Nat} {bs : List Value} {w w' : World} (h : Lib.IsBuilder T e B b bs w) (hb : Below w.heap.size w w') : Lib.IsBuilder T e B b bs w' := by
  have key : ∀ p, Lib.BuilderAt T e B b p bs w → Lib.BuilderAt T e B b p bs w' := by
    rintro p ⟨h1, v, h2, h3, h4⟩
    have hlt : b < w.heap.size := by
      rcases Nat.lt_or_ge b w.heap.size with h | h
      · exact h
      · rw [Array.getElem?_eq_none h] at h2; cases h2
    refine ⟨h1, v, (hb.block b hlt).trans h2, ⟨h3.1, ?_⟩, h4⟩
    rcases h3.2 with hv | ⟨g, cap, cur, hv, hbg, hg, hr⟩
    · exact .inl hv
    · refine .inr ⟨g, cap, cur, hv, hbg, ?_, hr⟩
      rw [hb.block g ?_]; exact hg
      rcases Nat.lt_or_ge g w.heap.size with h | h
      · exact h
      · rw [Array.getElem?_eq_none h] at hg; cases hg
  exact h.imp (key _) (key _)
theorem box_cells {w W1 w' : World} {T : TypeId} {u v : Value} (h : W1 = w.alloc (.cells #[u, v] T)) (hb : Below (w.heap.size + 1) W1 w') : w'.cell? ⟨w.heap.size, 0, none⟩ = some u ∧ w'.cell? ⟨w.heap.size, 1, none⟩ = some v := by
  subst h
  have hk := (BlkIs.new w T #[u, v]).keep (hb.block w.heap.size (by omega))
  exact ⟨hk.cell 0, hk.cell 1⟩
theorem cut_size (k : Nat) : ((⟨#[48, 48, 48, 48, 48, 48, 48, 48, 48]⟩ : ByteArray).extract k 9).size ≤ 9 := by
  rw [Lib.size_eq, Lib.extract_data, List.length_take, List.length_drop]; simp
theorem bytes_bound (ng : Bool) {v n : Nat} (hl : (Dec.limbs 1000000000 v).length = n) (hn : n ≤ 100000000) (j : Nat) : (signOf ng ++ Lib.decDigits (Dec.lval 1000000000 ((Dec.limbs 1000000000 v).drop j))).length ≤ 1000000000000 := by
  have h1 := signOf_length ng
  have h2 := Dec.lval_lt (B := 1000000000) (by omega) ((Dec.limbs_small (by omega) v).drop j)
  rw [List.length_drop, hl] at h2
  have h3 : (1000000000 : Nat) ^ (n - j) ≤ 10 ^ (9 * n + 1) := by
    have e : (1000000000 : Nat) = 10 ^ 9 := by decide
    rw [e, ← Nat.pow_mul]
    exact Nat.pow_le_pow_right (by omega) (by omega)
  have h4 := Dec.decDigits_length_le (k := 9 * n + 1) (by omega) (Nat.lt_of_lt_of_le h2 h3)
  rw [List.length_append]
  omega

set_option maxHeartbeats 4000000 in
theorem string_any (ng : Bool) (A : Option Addr) (n c v : Nat) (w : World) (hx : Sl w .u32 A n c (Dec.limbs 1000000000 v)) (hn : n ≤ 100000000) (ht : Tab w) :
    Calls Tryz.prog 153 #[.agg #[.bool ng, .slice A n c]] w (RetStr (numStr ng v) w) := by
  have HL := Lib.hid hx.len
  by_cases h0 : n = 0
  · have hv : v = 0 := (Dec.limbs_eq_nil (B := 1000000000) (by omega)).1 (List.eq_nil_of_length_eq_zero (by rw [HL.out]; exact h0))
    subst h0
    subst hv
    go_enter Tryz.func153, Tryz.ntmps153
    go_wp2
    go_ret
    refine ⟨?_, (Below.refl _ _).alloc (Nat.le_refl _) _⟩
    rw [numStr_zero]; rfl
  · have hv : v ≠ 0 := fun e => h0 (by rw [← HL.out, e]; rfl)
    have HSg : Hid (∀ g, numStr g v = signOf g ++ Lib.decDigits v) := fun g => itoa_sign g hv
    have hb0 : ((n : Int) == 0) = false := by rw [beq_eq_false_iff_ne]; omega
    obtain ⟨b, off, rfl, hbl, hcx⟩ := hx.cells (by omega)
    have hct := hcx (n - 1) (by omega)
    clear hcx
    have hu := getD_lt (l := Dec.limbs 1000000000 v) (Dec.limbs_small (by omega) v) (by omega) (n - 1)
    have HTop : Hid (Dec.lval 1000000000 ((Dec.limbs 1000000000 v).drop (n - 1)) = (Dec.limbs 1000000000 v).getD (n - 1) 0) := by
      show _ = _
      rw [Dec.lval_drop _ _ (n - 1) (by rw [HL.out]; omega), List.drop_of_length_le (by rw [HL.out]; omega)]; simp [Dec.lval]
    generalize (Dec.limbs 1000000000 v).getD (n - 1) 0 = u at hct hu HTop
    clear hv
    cases ng
    · have HS := Lib.hid (HSg.out false)
      go_enter Tryz.func153, Tryz.ntmps153
      go_wp2_with fail
      obtain ⟨W1, hW1⟩ : ∃ W1, W1 = w.alloc (.cells #[.bool false, .slice (some ⟨b, off, none⟩) n c] 176) := ⟨_, rfl⟩
      have hW1s : W1.heap.size = w.heap.size + 1 := by rw [hW1]; simp
      have hW1b : Below w.heap.size w W1 := by rw [hW1]; exact (Below.refl _ _).alloc (Nat.le_refl _) _
      rw [← hW1]
      have hbu := fresh_builder W1 193 5
      rw [hW1s] at hbu
      have hbx : Below (w.heap.size + 1) W1 (W1.alloc (.cells #[.pointer none, .slice none 0 0] 193)) := (Below.refl _ _).alloc (by rw [hW1s]; exact Nat.le_refl _) _
      refine (itoa_any (u : Int) _ ((ht.below hW1b).alloc _) (by omega) (by omega)).mono ?_
      rintro e w2 ⟨rfl, hb2⟩
      have hbd2 : Below (w.heap.size + 1) W1 w2 := hbx.trans (hb2.mono (by rw [World.size_alloc, hW1s]; omega))
      have hB2 : Lib.IsBuilder 193 5 (w.heap.size + 1) (w.heap.size + 1) (Lib.byteCells (signOf false)) w2 := isBuilder_below hbu hb2
      have HI : Hid (Lib.itoa (u : Int) = Lib.decDigits u) := Dec.itoa_pos
      have hdl := Dec.decDigits_length_le (k := 9) (u := u) (by omega) (by omega)
      rw [HI.out]
      obtain ⟨S, hS⟩ : ∃ S : ByteArray, S = ⟨(Lib.decDigits u).toArray⟩ := ⟨_, rfl⟩
      rw [← hS]
      have HS1 : Hid (S.data.toList = Lib.decDigits u) := by rw [hS]; exact (rfl : (Lib.decDigits u).toArray.toList = _)
      have hS9 : S.size ≤ 9 := by rw [Lib.size_eq, HS1.out]; exact hdl
      clear hS hdl
      go_wp2_with fail
      refine (writeString_any (w.heap.size + 1) (w.heap.size + 1) _ S _ hB2 (by rw [Lib.byteCells_length]; have := signOf_length false; omega) (by have := hbd2.size; rw [hW1s] at this; exact this)).mono ?_
      rintro e w3 ⟨rfl, hB3, hb3⟩
      have hbd3 : Below (w.heap.size + 1) W1 w3 := hbd2.trans hb3
      have hB3' : Lib.IsBuilder 193 5 (w.heap.size + 1) (w.heap.size + 1) (Lib.byteCells (signOf false ++ Lib.decDigits (Dec.lval 1000000000 ((Dec.limbs 1000000000 v).drop (n - 1))))) w3 := by
        rw [HTop.out, Lib.byteCells_append]
        have := hB3
        rw [Lib.strCells_eq, HS1.out] at this
        exact .inr this
      obtain ⟨q0, q1⟩ := box_cells hW1 hbd3
      go_wp2
      go_loopw [4] (fun ix wr => ∃ j : Nat, j < n ∧ ix = .int .i64 ((j : Int) - 1) ∧ Lib.IsBuilder 193 5 (w.heap.size + 1) (w.heap.size + 1) (Lib.byteCells (signOf false ++ Lib.decDigits (Dec.lval 1000000000 ((Dec.limbs 1000000000 v).drop j)))) wr ∧ Below (w.heap.size + 1) W1 wr) (fun ix _ => (intOf ix + 1).toNat)
      case atStart => exact ⟨n - 1, by omega, by go_num, hB3', hbd3⟩
      case round =>
        obtain ⟨j, hj, rfl, hBr, hbr⟩ := hrel
        obtain ⟨p0, p1⟩ := box_cells hW1 hbr
        have hbw : Below w.heap.size w wr := hW1b.trans (hbr.mono (by omega))
        have hszr : w.heap.size + 1 ≤ wr.heap.size := by have := hbr.size; rw [hW1s] at this; exact this
        by_cases hj0 : 0 < j
        · obtain ⟨b', off', eA, _, hcr⟩ := (hx.below hbw).cells (by omega)
          injection eA with eA
          injection eA with eA1 eA2
          subst eA1 eA2
          have hcy := hcr (j - 1) (by omega)
          clear hcr
          have hy := getD_lt (l := Dec.limbs 1000000000 v) (Dec.limbs_small (by omega) v) (by omega) (j - 1)
          have HR := Lib.hid (digits_round (v := v) hj0 (by rw [HL.out]; exact hj))
          generalize (Dec.limbs 1000000000 v).getD (j - 1) 0 = y at hcy hy HR
          have hi1 : (0 : Int) ≤ (j : Int) - 1 := by omega
          have hi2 : (j : Int) - 1 < n := by omega
          have hi3 : ((j : Int) - 1).toNat = j - 1 := by omega
          go_wp2_with fail
          refine (itoa_any (y : Int) _ (ht.below hbw) (by omega) (by omega)).mono ?_
          rintro e w4 ⟨rfl, hb4⟩
          have hbd4 : Below (w.heap.size + 1) W1 w4 := hbr.trans (hb4.mono hszr)
          have hB4 := isBuilder_below hBr hb4
          have HI2 : Hid (Lib.itoa (y : Int) = Lib.decDigits y) := Dec.itoa_pos
          have hdl := Dec.decDigits_length_le (k := 9) (u := y) (by omega) (by omega)
          rw [HI2.out]
          obtain ⟨Y, hY⟩ : ∃ Y : ByteArray, Y = ⟨(Lib.decDigits y).toArray⟩ := ⟨_, rfl⟩
          rw [← hY]
          have HY1 : Hid (Y.data.toList = Lib.decDigits y) := by rw [hY]; exact (rfl : (Lib.decDigits y).toArray.toList = _)
          have hY9 : Y.size ≤ 9 := by rw [Lib.size_eq, HY1.out]; exact hdl
          have HYs : Hid (Y.size = (Lib.decDigits y).length) := by show _ = _; rw [Lib.size_eq, HY1.out]
          clear hY hdl
          have hszb : (Lib.byteCells (signOf false ++ Lib.decDigits (Dec.lval 1000000000 ((Dec.limbs 1000000000 v).drop j)))).length ≤ 1000000000000 := by
            rw [Lib.byteCells_length]; exact bytes_bound false HL.out hn j
          go_wp2_with fail
          refine (writeString_any (w.heap.size + 1) (w.heap.size + 1) _ _ _ hB4 (by have := cut_size Y.size; omega) (by have := hbd4.size; rw [hW1s] at this; exact this)).mono ?_
          rintro e w5 ⟨rfl, hB5, hb5⟩
          have hB5l := hszb
          go_wp2_with fail
          refine (writeString_any (w.heap.size + 1) (w.heap.size + 1) _ _ _ (.inr hB5) (by rw [List.length_append, Lib.strCells_length]; have := cut_size Y.size; omega) (by have := (hbd4.trans hb5).size; rw [hW1s] at this; exact this)).mono ?_
          rintro e w6 ⟨rfl, hB6, hb6⟩
          have hB7 : Lib.IsBuilder 193 5 (w.heap.size + 1) (w.heap.size + 1) (Lib.byteCells (signOf false ++ Lib.decDigits (Dec.lval 1000000000 ((Dec.limbs 1000000000 v).drop (j - 1))))) w6 := by
            rw [HR.out, ← List.append_assoc, ← List.append_assoc, Lib.byteCells_append, Lib.byteCells_append]
            have := hB6
            rw [Lib.strCells_eq, Lib.strCells_eq, zeros_cut _ hY9, HYs.out, HY1.out] at this
            exact .inr this
          have hbd6 := (hbd4.trans hb5).trans hb6
          go_wp2
          go_roundw
          case rel => exact ⟨j - 1, by omega, by go_num, hB7, hbd6⟩
          case measure => simp only [intOf]; omega
        · have hjz : j = 0 := by omega
          subst hjz
          go_wp2_with fail
          refine (Tryz.Builder_String_any (w.heap.size + 1) (w.heap.size + 1) _ _ hBr hszr).mono ?_
          rintro e w7 ⟨rfl, hb7⟩
          go_wp2
          go_ret
          refine ⟨?_, hW1b.trans ((hbr.trans hb7).mono (by omega))⟩
          rw [HS.out, Dec.lval_limbs (by omega)]
          rfl
    · have HS := Lib.hid (HSg.out true)
      go_enter Tryz.func153, Tryz.ntmps153
      go_wp2_with fail
      obtain ⟨W1, hW1⟩ : ∃ W1, W1 = w.alloc (.cells #[.bool true, .slice (some ⟨b, off, none⟩) n c] 176) := ⟨_, rfl⟩
      have hW1s : W1.heap.size = w.heap.size + 1 := by rw [hW1]; simp
      have hW1b : Below w.heap.size w W1 := by rw [hW1]; exact (Below.refl _ _).alloc (Nat.le_refl _) _
      rw [← hW1]
      have hbu := fresh_builder W1 193 5
      rw [hW1s] at hbu
      have hbx : Below (w.heap.size + 1) W1 (W1.alloc (.cells #[.pointer none, .slice none 0 0] 193)) := (Below.refl _ _).alloc (by rw [hW1s]; exact Nat.le_refl _) _
      refine (writeByte_any (w.heap.size + 1) (w.heap.size + 1) _ 45 _ hbu (by simp [Lib.byteCells]) (by rw [World.size_alloc, hW1s]; omega)).mono ?_
      rintro e w9 ⟨rfl, hB9, hb9⟩
      have hbd9 := hbx.trans hb9
      have hbw9 : Below w.heap.size w w9 := hW1b.trans (hbd9.mono (by omega))
      have hsz9 : w.heap.size + 1 ≤ w9.heap.size := by have := hbd9.size; rw [hW1s] at this; exact this
      obtain ⟨s0, s1⟩ := box_cells hW1 hbd9
      have hct9 := (hbw9.cell (p := ⟨b, off + (n - 1), none⟩) hbl).trans hct
      go_wp2_with fail
      refine (itoa_any (u : Int) _ (ht.below hbw9) (by omega) (by omega)).mono ?_
      rintro e w2 ⟨rfl, hb2⟩
      have hbd2 : Below (w.heap.size + 1) W1 w2 := hbd9.trans (hb2.mono hsz9)
      have hB2 : Lib.IsBuilder 193 5 (w.heap.size + 1) (w.heap.size + 1) (Lib.byteCells (signOf true)) w2 := isBuilder_below (.inr hB9) hb2
      have HI : Hid (Lib.itoa (u : Int) = Lib.decDigits u) := Dec.itoa_pos
      have hdl := Dec.decDigits_length_le (k := 9) (u := u) (by omega) (by omega)
      rw [HI.out]
      obtain ⟨S, hS⟩ : ∃ S : ByteArray, S = ⟨(Lib.decDigits u).toArray⟩ := ⟨_, rfl⟩
      rw [← hS]
      have HS1 : Hid (S.data.toList = Lib.decDigits u) := by rw [hS]; exact (rfl : (Lib.decDigits u).toArray.toList = _)
      have hS9 : S.size ≤ 9 := by rw [Lib.size_eq, HS1.out]; exact hdl
      clear hS hdl
      go_wp2_with fail
      refine (writeString_any (w.heap.size + 1) (w.heap.size + 1) _ S _ hB2 (by rw [Lib.byteCells_length]; have := signOf_length true; omega) (by have := hbd2.size; rw [hW1s] at this; exact this)).mono ?_
      rintro e w3 ⟨rfl, hB3, hb3⟩
      have hbd3 : Below (w.heap.size + 1) W1 w3 := hbd2.trans hb3
      have hB3' : Lib.IsBuilder 193 5 (w.heap.size + 1) (w.heap.size + 1) (Lib.byteCells (signOf true ++ Lib.decDigits (Dec.lval 1000000000 ((Dec.limbs 1000000000 v).drop (n - 1))))) w3 := by
        rw [HTop.out, Lib.byteCells_append]
        have := hB3
        rw [Lib.strCells_eq, HS1.out] at this
        exact .inr this
      obtain ⟨q0, q1⟩ := box_cells hW1 hbd3
      go_wp2
      go_loopw [4] (fun ix wr => ∃ j : Nat, j < n ∧ ix = .int .i64 ((j : Int) - 1) ∧ Lib.IsBuilder 193 5 (w.heap.size + 1) (w.heap.size + 1) (Lib.byteCells (signOf true ++ Lib.decDigits (Dec.lval 1000000000 ((Dec.limbs 1000000000 v).drop j)))) wr ∧ Below (w.heap.size + 1) W1 wr) (fun ix _ => (intOf ix + 1).toNat)
      case atStart => exact ⟨n - 1, by omega, by go_num, hB3', hbd3⟩
      case round =>
        obtain ⟨j, hj, rfl, hBr, hbr⟩ := hrel
        obtain ⟨p0, p1⟩ := box_cells hW1 hbr
        have hbw : Below w.heap.size w wr := hW1b.trans (hbr.mono (by omega))
        have hszr : w.heap.size + 1 ≤ wr.heap.size := by have := hbr.size; rw [hW1s] at this; exact this
        by_cases hj0 : 0 < j
        · obtain ⟨b', off', eA, _, hcr⟩ := (hx.below hbw).cells (by omega)
          injection eA with eA
          injection eA with eA1 eA2
          subst eA1 eA2
          have hcy := hcr (j - 1) (by omega)
          clear hcr
          have hy := getD_lt (l := Dec.limbs 1000000000 v) (Dec.limbs_small (by omega) v) (by omega) (j - 1)
          have HR := Lib.hid (digits_round (v := v) hj0 (by rw [HL.out]; exact hj))
          generalize (Dec.limbs 1000000000 v).getD (j - 1) 0 = y at hcy hy HR
          have hi1 : (0 : Int) ≤ (j : Int) - 1 := by omega
          have hi2 : (j : Int) - 1 < n := by omega
          have hi3 : ((j : Int) - 1).toNat = j - 1 := by omega
          go_wp2_with fail
          refine (itoa_any (y : Int) _ (ht.below hbw) (by omega) (by omega)).mono ?_
          rintro e w4 ⟨rfl, hb4⟩
          have hbd4 : Below (w.heap.size + 1) W1 w4 := hbr.trans (hb4.mono hszr)
          have hB4 := isBuilder_below hBr hb4
          have HI2 : Hid (Lib.itoa (y : Int) = Lib.decDigits y) := Dec.itoa_pos
          have hdl := Dec.decDigits_length_le (k := 9) (u := y) (by omega) (by omega)
          rw [HI2.out]
          obtain ⟨Y, hY⟩ : ∃ Y : ByteArray, Y = ⟨(Lib.decDigits y).toArray⟩ := ⟨_, rfl⟩
          rw [← hY]
          have HY1 : Hid (Y.data.toList = Lib.decDigits y) := by rw [hY]; exact (rfl : (Lib.decDigits y).toArray.toList = _)
          have hY9 : Y.size ≤ 9 := by rw [Lib.size_eq, HY1.out]; exact hdl
          have HYs : Hid (Y.size = (Lib.decDigits y).length) := by show _ = _; rw [Lib.size_eq, HY1.out]
          clear hY hdl
          have hszb : (Lib.byteCells (signOf true ++ Lib.decDigits (Dec.lval 1000000000 ((Dec.limbs 1000000000 v).drop j)))).length ≤ 1000000000000 := by
            rw [Lib.byteCells_length]; exact bytes_bound true HL.out hn j
          go_wp2_with fail
          refine (writeString_any (w.heap.size + 1) (w.heap.size + 1) _ _ _ hB4 (by have := cut_size Y.size; omega) (by have := hbd4.size; rw [hW1s] at this; exact this)).mono ?_
          rintro e w5 ⟨rfl, hB5, hb5⟩
          have hB5l := hszb
          go_wp2_with fail
          refine (writeString_any (w.heap.size + 1) (w.heap.size + 1) _ _ _ (.inr hB5) (by rw [List.length_append, Lib.strCells_length]; have := cut_size Y.size; omega) (by have := (hbd4.trans hb5).size; rw [hW1s] at this; exact this)).mono ?_
          rintro e w6 ⟨rfl, hB6, hb6⟩
          have hB7 : Lib.IsBuilder 193 5 (w.heap.size + 1) (w.heap.size + 1) (Lib.byteCells (signOf true ++ Lib.decDigits (Dec.lval 1000000000 ((Dec.limbs 1000000000 v).drop (j - 1))))) w6 := by
            rw [HR.out, ← List.append_assoc, ← List.append_assoc, Lib.byteCells_append, Lib.byteCells_append]
            have := hB6
            rw [Lib.strCells_eq, Lib.strCells_eq, zeros_cut _ hY9, HYs.out, HY1.out] at this
            exact .inr this
          have hbd6 := (hbd4.trans hb5).trans hb6
          go_wp2
          go_roundw
          case rel => exact ⟨j - 1, by omega, by go_num, hB7, hbd6⟩
          case measure => simp only [intOf]; omega
        · have hjz : j = 0 := by omega
          subst hjz
          go_wp2_with fail
          refine (Tryz.Builder_String_any (w.heap.size + 1) (w.heap.size + 1) _ _ hBr hszr).mono ?_
          rintro e w7 ⟨rfl, hb7⟩
          go_wp2
          go_ret
          refine ⟨?_, hW1b.trans ((hbr.trans hb7).mono (by omega))⟩
          rw [HS.out, Dec.lval_limbs (by omega)]
          rfl
end Go.Proofs.YtlbbfmijemnjdaaGreatDoor
/- number.divide: quotient and remainder of two absolute values. -/
namespace Go.Proofs.YtlbbfmijemnjdaaGreatDoor
open Go.RowKit

theorem Sl.one (w : World) (k : IntKind) (E : TypeId) (y : Nat) : Sl (w.alloc (.cells #[.int k (y : Int)] E)) k (some ⟨w.heap.size, 0, none⟩) 1 1 [y] :=
  ⟨rfl, Nat.le_refl _, fun _ => ⟨w.heap.size, 0, rfl, by simp, fun i hi => by
    obtain rfl : i = 0 := by omega
    exact (BlkIs.new w E #[.int k (y : Int)]).cell 0⟩⟩
def GtB (a b : Nat) (w : World) (e : Ending) (w' : World) : Prop := e = .returned (.bool (decide (b < a))) ∧ Below w.heap.size w w'

theorem Sl.drew1 {w : World} {k : IntKind} {A : Option Addr} {n c : Nat} {l : List Nat} (h : Sl w k A n c l) : Sl w.drew k A n c l := ⟨h.len, h.cap, h.cells⟩
theorem Sl.alloc {w : World} {k : IntKind} {A : Option Addr} {n c : Nat} {l : List Nat} (h : Sl w k A n c l) (o : Obj) : Sl (w.alloc o) k A n c l := h.below ((Below.refl _ _).alloc (Nat.le_refl _) _)
theorem keep2 {w w' : World} {p q : Nat} {u v : Value} (hb : Below w.heap.size w w') (hp : w.cell? ⟨p, 0, none⟩ = some u) (hq : w.cell? ⟨q, 0, none⟩ = some v) : w'.cell? ⟨p, 0, none⟩ = some u ∧ w'.cell? ⟨q, 0, none⟩ = some v :=
  ⟨(hb.cell (p := ⟨p, 0, none⟩) (World.block_lt_of_cell? _ _ hp)).trans hp, (hb.cell (p := ⟨q, 0, none⟩) (World.block_lt_of_cell? _ _ hq)).trans hq⟩
theorem ordI_pos (a b : Nat) : decide (0 < ordI a b) = decide (b < a) := by
  rcases Nat.lt_trichotomy a b with h | h | h
  · rw [ordI_lt h, decide_eq_false (by omega), decide_eq_false (by omega)]
  · subst h; rw [ordI_eq, decide_eq_false (by omega), decide_eq_false (by omega)]
  · rw [ordI_gt h, decide_eq_true (by omega), decide_eq_true (by omega)]
theorem limbs_lt {b n : Nat} (h : (Dec.limbs 1000000000 b).length = n) : b < 1000000000 ^ n := by
  have := Dec.lval_lt (B := 1000000000) (by omega) (Dec.limbs_small (by omega) b)
  rwa [Dec.lval_limbs (by omega), h] at this
theorem length_mul_small {b k n : Nat} (h : (Dec.limbs 1000000000 b).length = n) (hk : k < 1000000000) : (Dec.limbs 1000000000 (b * k)).length ≤ n + 1 := by
  apply Dec.limbs_lt_length (by omega)
  have h1 := limbs_lt h
  rw [Nat.pow_succ]
  rcases Nat.eq_zero_or_pos k with e | e
  · subst e; rw [Nat.mul_zero]; exact Nat.mul_pos (Nat.pow_pos (by omega)) (by omega)
  · exact Nat.mul_lt_mul'' h1 hk

set_option maxHeartbeats 1000000 in
theorem closure_any (pb pr : Nat) (A A' : Option Addr) (n n' c c' b r k : Nat) (w : World) (hpb : w.cell? ⟨pb, 0, none⟩ = some (.slice A n c)) (hpr : w.cell? ⟨pr, 0, none⟩ = some (.slice A' n' c'))
    (hb : Sl w .u32 A n c (Dec.limbs 1000000000 b)) (hr : Sl w .u32 A' n' c' (Dec.limbs 1000000000 r)) (hn : n ≤ 10000000) (hn' : n' ≤ 10000000) (hk : k < 1000000000) :
    Calls Tryz.prog 161 #[.int .i64 (k : Int), .pointer (some ⟨pb, 0, none⟩), .pointer (some ⟨pr, 0, none⟩)] w (GtB (b * k) r w) := by
  have hlb := World.block_lt_of_cell? _ _ hpb
  have hlr := World.block_lt_of_cell? _ _ hpr
  have hbW : Below w.heap.size w (w.alloc (.cells #[.int .u32 (k : Int)] 168)).drew := ((Below.refl _ _).alloc (Nat.le_refl _) _).drew
  have hT := times_any A (some ⟨w.heap.size, 0, none⟩) n 1 c 1 _ [k] (w.alloc (.cells #[.int .u32 (k : Int)] 168)).drew ((hb.alloc _).drew1) ((Sl.one w .u32 168 k).drew1) (by omega) (by omega) (Dec.limbs_small (by omega) b) (Dec.Small.cons hk Dec.Small.nil)
  rw [Dec.lval_limbs (by omega), show Dec.lval 1000000000 [k] = k by simp [Dec.lval]] at hT
  have HT := Lib.hid hT
  clear hT
  have HLb := Lib.hid hb.len
  have hw32 : IntKind.u32.wrap (k : Int) = k := by rw [IntKind.wrap_u32]; omega
  go_enter Tryz.func161, Tryz.ntmps161
  go_wp2
  go_region_held3 (fun w' => w'.cell? ⟨pb, 0, none⟩ = some (.slice A n c) ∧ w'.cell? ⟨pr, 0, none⟩ = some (.slice A' n' c')) (go_keep)
    (first | (go_at_call 162; refine HT.out.mono ?_; rintro e w1 ⟨A1, n1, c1, rfl, hs1, hb1, _⟩; have hbw1 := hbW.trans (hb1.mono hbW.size); obtain ⟨q1, q2⟩ := keep2 hbw1 hpb hpr; have HC := Lib.hid (compare_any 1000000000 (by omega) A1 A' n1 n' c1 c' (b * k) r w1 hs1 (hr.below hbw1) (by have := length_mul_small HLb.out hk; rw [hs1.len] at this; omega) (by omega))) | (go_at_call 159; refine HC.out.mono ?_; rintro e w2 ⟨rfl, q, rfl⟩))
  go_wp2
  go_ret
  exact ⟨by rw [← ordI_pos]; rfl, below_drewN hbw1 _⟩

def RetNat (k : IntKind) (v : Nat) (w : World) (e : Ending) (w' : World) : Prop := e = .returned (.int k (v : Int)) ∧ Below w.heap.size w w'
theorem div_le_iff' {r b h : Nat} (hb : 0 < b) : r < b * h ↔ r / b < h := by
  rw [Nat.div_lt_iff_lt_mul hb, Nat.mul_comm]

set_option maxHeartbeats 1000000 in
theorem search_any (pb pr : Nat) (A A' : Option Addr) (n n' c c' b r : Nat) (w : World) (hpb : w.cell? ⟨pb, 0, none⟩ = some (.slice A n c)) (hpr : w.cell? ⟨pr, 0, none⟩ = some (.slice A' n' c'))
    (hb : Sl w .u32 A n c (Dec.limbs 1000000000 b)) (hr : Sl w .u32 A' n' c' (Dec.limbs 1000000000 r)) (hn : n ≤ 10000000) (hn' : n' ≤ 10000000) (hb0 : 0 < b) (hq : r / b < 1000000000) :
    Calls Tryz.prog 160 #[.int .i64 1000000000, .func (.func 161) #[] #[.pointer (some ⟨pb, 0, none⟩), .pointer (some ⟨pr, 0, none⟩)]] w (RetNat .i64 (r / b + 1) w) := by
  have HQ : Hid (∀ h, decide (r < b * h) = decide (r / b < h)) := fun h => by rw [decide_eq_decide]; exact div_le_iff' hb0
  generalize r / b = d at hq HQ
  go_enter Tryz.func160, Tryz.ntmps160
  go_wp2
  go_loopw [5, 6] (fun s5 s6 wr => ∃ lo hi : Nat, s5 = .int .i64 lo ∧ s6 = .int .i64 hi ∧ lo ≤ d + 1 ∧ d + 1 ≤ hi ∧ hi ≤ 1000000000 ∧ Below w.heap.size w wr) (fun s5 s6 _ => (intOf s6 - intOf s5).toNat)
  case atStart => exact ⟨0, 1000000000, rfl, rfl, by omega, by omega, by omega, Below.refl _ _⟩
  case round =>
    obtain ⟨lo, hi, rfl, rfl, h1, h2, h3, hbr⟩ := hrel
    by_cases hlt : lo < hi
    · obtain ⟨p1, p2⟩ := keep2 hbr hpb hpr
      have hc := closure_any pb pr A A' n n' c c' b r ((lo + hi) / 2) wr p1 p2 (hb.below hbr) (hr.below hbr) hn hn' (by omega)
      unfold GtB at hc
      rw [HQ.out, show (((lo + hi) / 2 : Nat) : Int) = ((lo : Int) + (hi : Int)) / 2 by omega] at hc
      by_cases hm : d < (lo + hi) / 2
      · rw [decide_eq_true hm] at hc
        have HC := Lib.hid hc
        clear hc
        go_wp2_with (go_at_call 161; refine HC.out.mono ?_; rintro e w1 ⟨rfl, hb1⟩)
        go_roundw
        case rel => exact ⟨lo, (lo + hi) / 2, rfl, by go_num, h1, by omega, by omega, hbr.trans (hb1.mono hbr.size)⟩
        case measure => simp only [intOf]; omega
      · rw [decide_eq_false hm] at hc
        have HC := Lib.hid hc
        clear hc
        go_wp2_with (go_at_call 161; refine HC.out.mono ?_; rintro e w1 ⟨rfl, hb1⟩)
        go_roundw
        case rel => exact ⟨(lo + hi) / 2 + 1, hi, by go_num, rfl, by omega, h2, h3, hbr.trans (hb1.mono hbr.size)⟩
        case measure => simp only [intOf]; omega
    · have e : lo = d + 1 := by omega
      subst e
      go_wp2
      go_ret
      exact ⟨rfl, hbr⟩
end Go.Proofs.YtlbbfmijemnjdaaGreatDoor
/- 'append(s, x...)' onto a row of the call's own, whatever slice x is; the law for a region that draws its order. -/
namespace Go.Proofs.YtlbbfmijemnjdaaGreatDoor
open Go.RowKit

section
variable {P : Program} {w : World}
theorem run_apps (base : Nat) (t ty E : TypeId) (k : IntKind) (bytes : Nat) (ht : P.underlying t = some (.slice E)) (hinfo : (P.info? E).map (fun i => (i.zero, i.size, i.bytes)) = some (some (.int k 0), 1, bytes)) (hbytes : bytes ≤ 8)
    (A : Option Addr) (n c : Nat) (l : List Nat) (hown : Own w base E k A n c l) (A' : Option Addr) (m c' : Nat) (l' : List Nat) (hs : Sl w k A' m c' l')
    (hn : n + m ≤ 1000000000000) (hbase : base ≤ w.heap.size) :
    ∃ A2 c2 w2, (Builtin.append_ #[t, t] ty #[.slice A n c, .slice A' m c']).run P w = .ok (.slice A2 (n + m) c2) w2 ∧ Own w2 base E k A2 (n + m) c2 (l ++ l') ∧
      (∀ g, g < w.heap.size → A ≠ some ⟨g, 0, none⟩ → w2.heap[g]? = w.heap[g]?) ∧ w.heap.size ≤ w2.heap.size ∧ w2.os = w.os ∧ w2.tape = w.tape ∧ w2.output = w.output := by
  obtain ⟨i0, hi0, hz0, hz1, hz2⟩ := info_parts hinfo
  have hAn : A = none ∨ ∃ g, A = some ⟨g, 0, none⟩ := by
    rcases hown.own.2 with ⟨hv, _⟩ | ⟨g, cap, cur, hv, _⟩
    · simp only [Value.slice.injEq] at hv; exact .inl hv.1
    · simp only [Value.slice.injEq] at hv; exact .inr ⟨g, hv.1⟩
  rcases A' with _ | ad
  · have hm : m = 0 := by
      rcases Nat.eq_zero_or_pos m with h0 | h0
      · exact h0
      · obtain ⟨b, o, e, _⟩ := hs.cells h0; cases e
    subst hm
    have hl : l' = [] := List.eq_nil_of_length_eq_zero hs.len
    subst hl
    refine ⟨A, c, w, ?_, by simpa using hown, fun _ _ _ => rfl, Nat.le_refl _, rfl, rfl, rfl⟩
    rcases hown.own.2 with ⟨hv, h0⟩ | ⟨g, cap, cur, hv, _, _, hnc, _⟩
    · simp only [Value.slice.injEq] at hv
      obtain ⟨rfl, rfl, rfl⟩ := hv
      simp [Builtin.append_, run_underlying ht, sizeOf, typeInfo, hi0, Builtin.lenOf, Builtin.firstCells]
    · simp only [Value.slice.injEq] at hv
      obtain ⟨rfl, _, rfl⟩ := hv
      simp [Builtin.append_, run_underlying ht, sizeOf, typeInfo, hi0, Builtin.lenOf, Builtin.firstCells, hnc, storeCells]
  · have hcells : ∀ j u, (l'.map fun x => Value.int k (x : Nat))[j]? = some u → w.cell? (ad.add j) = some u := by
      intro j u hu
      have hj : j < m := by
        rw [← hs.len]
        rcases Nat.lt_or_ge j l'.length with h | h
        · exact h
        · rw [List.getElem?_eq_none (by simpa using h)] at hu; cases hu
      obtain ⟨b, o, e, _, hc⟩ := hs.cells (by omega)
      injection e with e
      subst e
      have e2 : (⟨b, o, none⟩ : Addr).add j = ⟨b, o + j, none⟩ := by
        unfold Addr.add
        split
        · subst j; rfl
        · rfl
      rw [e2, hc j hj]
      rw [List.getElem?_map, List.getElem?_eq_getElem (by rw [hs.len]; exact hj)] at hu
      rw [List.getD_eq_getElem?_getD, List.getElem?_eq_getElem (by rw [hs.len]; exact hj)]
      simpa using hu
    obtain ⟨v', w', hrun, h2, h3, h4, h5⟩ := run_append_own_at (P := P) w base t ty E i0 (.int k 0) 1 bytes ht hi0 hz0 hz1 hz2 rfl (by omega) _ n _ hown.own ad m c' (l'.map fun x => Value.int k (x : Nat)) (by simp [hs.len]) hcells (by
      intro u hu
      obtain ⟨x, _, rfl⟩ := List.mem_map.1 hu
      rfl) (by unfold maxLen; omega) (by
      have : (n + m) * bytes ≤ 1000000000000 * 8 := Nat.mul_le_mul hn hbytes
      omega) hbase
    obtain ⟨A2, c2, rfl⟩ : ∃ A2 c2, v' = .slice A2 (n + m) c2 := by
      rcases h2.2 with ⟨rfl, h0⟩ | ⟨g, cap, cur, rfl, _⟩
      · exact ⟨none, 0, by rw [h0]⟩
      · exact ⟨_, _, rfl⟩
    refine ⟨A2, c2, w', hrun, ⟨by simpa using h2⟩, fun g hg hne => h3.block g hg (fun e => ?_), h3.size, h3.os, h3.tape, h3.output⟩
    rcases hAn with rfl | ⟨g', rfl⟩
    · simp [Value.ownBlock] at e
    · simp [Value.ownBlock] at e; subst e; exact hne rfl
theorem wp_apps {o : Oper} {a : Act} {K : Act → World → Prop} {Q : Exit → Act → World → Prop} (s x : Operand) (t : TypeId)
    (ho : o.op = .call { callee := .builtin .append, args := #[s, x], argTypes := #[t, t] })
    (base : Nat) (E : TypeId) (k : IntKind) (bytes : Nat) (ht : P.underlying t = some (.slice E)) (hinfo : (P.info? E).map (fun i => (i.zero, i.size, i.bytes)) = some (some (.int k 0), 1, bytes)) (hbytes : bytes ≤ 8)
    (A : Option Addr) (n c : Nat) (l : List Nat) (hs : a.eval s = .slice A n c) (hown : Own w base E k A n c l) (A' : Option Addr) (m c' : Nat) (l' : List Nat) (hx : a.eval x = .slice A' m c') (hsl : Sl w k A' m c' l')
    (hn : n + m ≤ 1000000000000) (hbase : base ≤ w.heap.size)
    (h : ∀ A2 c2 w2, Own w2 base E k A2 (n + m) c2 (l ++ l') → (∀ g, g < w.heap.size → A ≠ some ⟨g, 0, none⟩ → w2.heap[g]? = w.heap[g]?) → w.heap.size ≤ w2.heap.size → w2.os = w.os → w2.tape = w.tape → w2.output = w.output → K (a.put o.dst (.slice A2 (n + m) c2)) w2) : o.wp P a w K Q := by
  obtain ⟨A2, c2, w2, hrun, h2, h3, h4, h5, h6, h7⟩ := run_apps (P := P) base t o.type E k bytes ht hinfo hbytes A n c l hown A' m c' l' hsl hn hbase
  unfold Oper.wp execOp
  simp only [ho, resolve, invoke, builtin, Sem.run_bind, Sem.run_pure, Result.andThen_ok, List.map_toArray, List.map_cons, List.map_nil, hs, hx, hrun]
  exact h A2 c2 w2 h2 h3 h4 h5 h6 h7
theorem step_apps {ops : Array Oper} {o : Oper} {a : Act} {K : Act → World → Prop} {Q : Exit → Act → World → Prop} {F : Prop} (hgd : o.guard = none) (s x : Operand) (t : TypeId)
    (ho : o.op = .call { callee := .builtin .append, args := #[s, x], argTypes := #[t, t] })
    (base : Nat) (E : TypeId) (k : IntKind) (bytes : Nat) (ht : P.underlying t = some (.slice E)) (hinfo : (P.info? E).map (fun i => (i.zero, i.size, i.bytes)) = some (some (.int k 0), 1, bytes)) (hbytes : bytes ≤ 8)
    (A : Option Addr) (n c : Nat) (l : List Nat) (hs : a.eval s = .slice A n c) (hown : Own w base E k A n c l) (A' : Option Addr) (m c' : Nat) (l' : List Nat) (hx : a.eval x = .slice A' m c') (hsl : Sl w k A' m c' l')
    (hn : n + m ≤ 1000000000000) (hbase : base ≤ w.heap.size)
    (h : ∀ A2 c2 w2, Own w2 base E k A2 (n + m) c2 (l ++ l') → (∀ g, g < w.heap.size → A ≠ some ⟨g, 0, none⟩ → w2.heap[g]? = w.heap[g]?) → w.heap.size ≤ w2.heap.size → w2.os = w.os → w2.tape = w.tape → w2.output = w.output → K (a.put o.dst (.slice A2 (n + m) c2)) w2) :
    if Region.wanted o (yielded ops a.tmps) = true then Oper.wp P o a w K Q else F := by
  have hw : Region.wanted o (yielded ops a.tmps) = true := by simp [Region.wanted, hgd]
  rw [if_pos hw]
  exact wp_apps s x t ho base E k bytes ht hinfo hbytes A n c l hs hown A' m c' l' hx hsl hn hbase h
theorem wpList_apps {ops : Array Oper} {rest : List Oper} {o : Oper} {a : Act} {Q : Exit → Act → World → Prop} (hgd : o.guard = none) (s x : Operand) (t : TypeId)
    (ho : o.op = .call { callee := .builtin .append, args := #[s, x], argTypes := #[t, t] })
    (base : Nat) (E : TypeId) (k : IntKind) (bytes : Nat) (ht : P.underlying t = some (.slice E)) (hinfo : (P.info? E).map (fun i => (i.zero, i.size, i.bytes)) = some (some (.int k 0), 1, bytes)) (hbytes : bytes ≤ 8)
    (A : Option Addr) (n c : Nat) (l : List Nat) (hs : a.eval s = .slice A n c) (hown : Own w base E k A n c l) (A' : Option Addr) (m c' : Nat) (l' : List Nat) (hx : a.eval x = .slice A' m c') (hsl : Sl w k A' m c' l')
    (hn : n + m ≤ 1000000000000) (hbase : base ≤ w.heap.size)
    (h : ∀ A2 c2 w2, Own w2 base E k A2 (n + m) c2 (l ++ l') → (∀ g, g < w.heap.size → A ≠ some ⟨g, 0, none⟩ → w2.heap[g]? = w.heap[g]?) → w.heap.size ≤ w2.heap.size → w2.os = w.os → w2.tape = w.tape → w2.output = w.output → wpList P ops Q rest (a.put o.dst (.slice A2 (n + m) c2)) w2) : wpList P ops Q (o :: rest) a w :=
  wpList_plain hgd fun _ hK => wp_apps s x t ho base E k bytes ht hinfo hbytes A n c l hs hown A' m c' l' hx hsl hn hbase fun A2 c2 w2 h2 h3 h4 h5 h6 h7 => hK _ _ (h A2 c2 w2 h2 h3 h4 h5 h6 h7)
end
end Go.Proofs.YtlbbfmijemnjdaaGreatDoor
/- number.divide: the walk. -/
namespace Go.Proofs.YtlbbfmijemnjdaaGreatDoor
open Go.RowKit

theorem Sl.far {w : World} {k : IntKind} {A : Option Addr} {n c : Nat} {l : List Nat} (h : Sl w k A n c l) {p : Addr} (hp : ∀ b o, A = some ⟨b, o, none⟩ → b ≠ p.block) (u : Value) : Sl (w.setCell p u) k A n c l :=
  ⟨h.len, h.cap, fun hn => by
    obtain ⟨b, o, e, hlt, hc⟩ := h.cells hn
    refine ⟨b, o, e, by simpa [World.setCell] using hlt, fun i hi => ?_⟩
    have hne := hp b o e
    rw [World.cell?_setCell_other w p ⟨b, o + i, none⟩ u (fun e => hne (by rw [e]))]
    exact hc i hi⟩
theorem below_apps {wr w2 : World} {o : Obj} (hblk : ∀ g, g < (wr.alloc o).drew.heap.size → (some ⟨wr.heap.size, 0, none⟩ : Option Addr) ≠ some ⟨g, 0, none⟩ → w2.heap[g]? = (wr.alloc o).drew.heap[g]?) (hsz : (wr.alloc o).drew.heap.size ≤ w2.heap.size)
    (hos : w2.os = (wr.alloc o).drew.os) (htp : w2.tape = (wr.alloc o).drew.tape) (hou : w2.output = (wr.alloc o).drew.output) : Below wr.heap.size wr w2 :=
  ⟨hos, htp, hou, by have : (wr.alloc o).drew.heap.size = wr.heap.size + 1 := by simp
                     omega, fun g hg => (hblk g (by simp; omega) (by intro e; injection e with e; injection e with e; omega)).trans (Below.heap_alloc wr _ g hg)⟩
theorem set_drop (q : List Nat) (i d : Nat) (h : i < q.length) : (q.set i d).drop i = d :: q.drop (i + 1) := by
  rw [List.drop_eq_getElem_cons (by simpa using h), List.getElem_set_self, List.drop_set_of_lt (by omega)]
theorem lval_cons_limbs (u R : Nat) : Dec.lval 1000000000 ([u] ++ Dec.limbs 1000000000 R) = u + 1000000000 * R := by
  show u + 1000000000 * Dec.lval 1000000000 (Dec.limbs 1000000000 R) = _
  rw [Dec.lval_limbs (by omega)]
theorem small_cons_limbs {u : Nat} (hu : u < 1000000000) (R : Nat) : Dec.Small 1000000000 ([u] ++ Dec.limbs 1000000000 R) := Dec.Small.cons hu (Dec.limbs_small (by omega) R)
theorem div_step {a b R u j : Nat} {q : List Nat} (hj : 0 < j) (hja : j ≤ (Dec.limbs 1000000000 a).length) (hjq : j ≤ q.length) (hu : (Dec.limbs 1000000000 a).getD (j - 1) 0 = u)
    (h : Dec.lval 1000000000 ((Dec.limbs 1000000000 a).drop j) = Dec.lval 1000000000 (q.drop j) * b + R) :
    Dec.lval 1000000000 ((Dec.limbs 1000000000 a).drop (j - 1)) = Dec.lval 1000000000 ((q.set (j - 1) ((u + 1000000000 * R) / b)).drop (j - 1)) * b + (u + 1000000000 * R) % b := by
  obtain ⟨m, rfl⟩ : ∃ m, j = m + 1 := ⟨j - 1, by omega⟩
  rw [Nat.add_sub_cancel] at hu ⊢
  rw [set_drop _ _ _ (by omega), Dec.lval_drop _ _ m (by omega), hu, Dec.lval]
  exact Dec.div_round h
theorem box1 {w : World} {g : Nat} {t : TypeId} {v : Value} (h : BlkIs w g t #[v]) : w.cell? ⟨g, 0, none⟩ = some v ∧ w.frozen? ⟨g, 0, none⟩ = false := ⟨h.cell 0, h.frozen 0⟩
theorem trim_same (A : Option Addr) (n c : Nat) (l : List Nat) (w : World) (h : Sl w .u32 A n c l) (hn : n ≤ 1000000000) :
    Calls Tryz.prog 158 #[.slice A n c] w fun e w' => e = .returned (.slice A (Dec.trimZ l).length c) ∧ w' = w :=
  (trim_any A n c l w h hn).mono fun _ _ h => ⟨h.1, h.2.symm⟩
def RetDiv (a b : Nat) (w : World) (e : Ending) (w' : World) : Prop :=
  ∃ A n c A' n' c', e = .returned (.tuple #[.slice A n c, .slice A' n' c']) ∧ Sl w' .u32 A n c (Dec.limbs 1000000000 (a / b)) ∧ Sl w' .u32 A' n' c' (Dec.limbs 1000000000 (a % b)) ∧ Below w.heap.size w w'

set_option maxHeartbeats 2000000 in
set_option maxRecDepth 100000 in
theorem divide_any (A A' : Option Addr) (n n' c c' a b : Nat) (w : World) (hx : Sl w .u32 A n c (Dec.limbs 1000000000 a)) (hy : Sl w .u32 A' n' c' (Dec.limbs 1000000000 b)) (hn : n ≤ 2500000) (hn' : n' ≤ 2500000) (hb0 : 0 < b) :
    Calls Tryz.prog 152 #[.slice A n c, .slice A' n' c'] w (RetDiv a b w) := by
  have HLx := Lib.hid hx.len
  have HLy := Lib.hid hy.len
  go_enter Tryz.func152, Tryz.ntmps152
  go_wp2_with (at_make; refine wpList_mk (w0 := w) rfl _ _ _ rfl 168 .u32 4 Tryz.underlying174 infoU32 (by omega) _ _ _ _ n rfl rfl (by omega) (by omega) (by omega) ((Below.refl _ _).alloc (Nat.le_refl _) _) ?_; intro w1 hown1 hb1 hbW1 hsz1)
  simp only [World.size_alloc] at hsz1 hown1 hbW1
  go_loopw [8, 9] (fun ix dg wr => ∃ (j R nr cr : Nat) (Ar : Option Addr) (q : List Nat), j ≤ n ∧ ix = .int .i64 ((j : Int) - 1) ∧ Hid (BlkIs wr w.heap.size 174 #[.slice A' n' c']) ∧ Hid (BlkIs wr w1.heap.size 174 #[.slice Ar nr cr]) ∧ Sl wr .u32 Ar nr cr (Dec.limbs 1000000000 R) ∧ Hid (∀ b o, Ar = some ⟨b, o, none⟩ → b ≠ w.heap.size + 1 ∧ b ≠ w1.heap.size) ∧ R < b ∧ Own wr w.heap.size 168 .u32 (some ⟨w.heap.size + 1, 0, none⟩) n n q ∧ Dec.Small 1000000000 q ∧ Hid (Dec.lval 1000000000 ((Dec.limbs 1000000000 a).drop j) = Dec.lval 1000000000 (q.drop j) * b + R) ∧ Below w.heap.size w wr) (fun ix _ _ => (intOf ix + 1).toNat)
  case atStart =>
    refine ⟨n, 0, 0, 0, none, List.replicate n 0, Nat.le_refl _, rfl, ?_, ?_, Sl.nil _ _ _ _, ?_, hb0, ?_, small_replicate _ _ (by omega), ?_, ?_⟩
    · have h1 := (BlkIs.new w 174 #[.slice A' n' c']).keep (hbW1.block w.heap.size (by omega))
      exact Lib.hid (h1.alloc _)
    · exact Lib.hid (BlkIs.new w1 _ _)
    · exact Lib.hid (fun _ _ e => by cases e)
    · exact hown1.alloc _
    · exact Lib.hid (by rw [List.drop_of_length_le (by rw [HLx.out]; exact Nat.le_refl _), List.drop_of_length_le (by simp)]; simp [Dec.lval])
    · exact hb1.alloc hb1.size _
  case round =>
    obtain ⟨j, R, nr, cr, Ar, q, hj, rfl, HB1, HB2, hsr, HA, hR, hown, hsq, HV, hb⟩ := hrel
    have HLr := Lib.hid hsr.len
    have hnr : nr ≤ n' := by
      rw [← HLr.out, ← HLy.out]; exact Dec.limbs_length_mono (by omega) (by omega)
    have c1 := HB1.out.cell 0
    have c2 := HB2.out.cell 0
    simp only [List.getElem?_toArray, List.getElem?_cons_zero] at c1 c2
    have f2 := HB2.out.frozen 0
    have hl2 := HB2.out.lt
    by_cases hj0 : 0 < j
    · obtain ⟨bx, ox, rfl, hbx, hcx⟩ := (hx.below hb).cells (by omega)
      have hcu := hcx (j - 1) (by omega)
      clear hcx
      have hu := getD_lt (l := Dec.limbs 1000000000 a) (Dec.limbs_small (by omega) a) (by omega) (j - 1)
      generalize hu0 : (Dec.limbs 1000000000 a).getD (j - 1) 0 = u at hcu hu
      have HU0 := Lib.hid hu0
      clear hu0
      have hi1 : (0 : Int) ≤ (j : Int) - 1 := by omega
      have hi2 : (j : Int) - 1 < n := by omega
      have hi3 : ((j : Int) - 1).toNat = j - 1 := by omega
      have hoW : Own (wr.alloc (.cells #[.int .u32 (u : Int)] 168)).drew wr.heap.size 168 .u32 (some ⟨wr.heap.size, 0, none⟩) 1 1 [u] := ⟨⟨rfl, .inr ⟨wr.heap.size, 1, #[.int .u32 (u : Int)], rfl, Nat.le_refl _, heap_alloc_new wr _, Nat.le_refl _, by unfold maxLen; omega, rfl, rfl⟩⟩⟩
      have hsW : Sl (wr.alloc (.cells #[.int .u32 (u : Int)] 168)).drew .u32 Ar nr cr (Dec.limbs 1000000000 R) := (hsr.alloc _).drew1
      have HU : Hid ((Dec.limbs 1000000000 a).getD (j - 1) 0 = u) := HU0
      have hqn : q.length = n := hown.len
      have HST := Lib.hid (div_step (b := b) hj0 (by rw [HLx.out]; exact hj) (by omega) HU.out HV.out)
      clear hqn
      obtain ⟨R', hR'⟩ : ∃ R', R' = u + 1000000000 * R := ⟨_, rfl⟩
      rw [← hR'] at HST
      have HR' := Lib.hid hR'
      clear hR'
      go_upto_region 6 with (fail)
      go_cut [8] (fun s8 wx => s8 = .int .i64 ((j : Int) - 1) ∧ ∃ (A2 : Option Addr) (n2 cc2 : Nat), Hid (BlkIs wx w.heap.size 174 #[.slice A' n' c']) ∧ Hid (BlkIs wx w1.heap.size 174 #[.slice A2 n2 cc2]) ∧ Sl wx .u32 A2 n2 cc2 (Dec.limbs 1000000000 R') ∧ Hid (∀ b o, A2 = some ⟨b, o, none⟩ → b ≠ w.heap.size + 1 ∧ b ≠ w1.heap.size) ∧ n2 ≤ n' + 1 ∧ Own wx w.heap.size 168 .u32 (some ⟨w.heap.size + 1, 0, none⟩) n n q ∧ Below w.heap.size w wx)
      case first =>
        go_region_law
          (first | (refine step_apps rfl _ _ _ rfl wr.heap.size 168 .u32 4 Tryz.underlying174 infoU32 (by omega) _ _ _ [u] rfl hoW _ _ _ _ rfl hsW (by omega) (by simp) ?_; intro A2 cc2 w2 hown2 hblk2 hsz2 hos2 htp2 hou2; have hbw2 := below_apps hblk2 hsz2 hos2 htp2 hou2; clear hblk2 hsz2 hos2 htp2 hou2; have k1 := (hbw2.cell (p := ⟨w1.heap.size, 0, none⟩) hl2).trans c2; have k3 := (hbw2.frozen (p := ⟨w1.heap.size, 0, none⟩) hl2).trans f2; have k4 := Nat.lt_of_lt_of_le hl2 hbw2.size; have HTr := Lib.hid (trim_any A2 (1 + nr) cc2 _ w2 hown2.sl (by omega))) | (go_simp; go_at_call 158; refine HTr.out.mono ?_; rintro e w3 ⟨rfl, rfl⟩))
        all_goals (go_wp2_with fail; go_meet)
        all_goals
          have hsl2 := hown2.sl.trimmed (B := 1000000000) (by omega) (small_cons_limbs hu R)
          rw [lval_cons_limbs, ← HR'.out] at hsl2
          have hfr := hown2.fresh
          have hq1 := (hown.lt rfl).2
          have htl := trimZ_length_le ([u] ++ Dec.limbs 1000000000 R)
          rw [List.length_append, HLr.out] at htl
          refine ⟨rfl, A2, _, cc2, Lib.hid ((HB1.out.below hbw2).far (by simp; omega) _), Lib.hid (by simpa using (HB2.out.below hbw2).set_ 0 (.slice A2 (Dec.trimZ ([u] ++ Dec.limbs 1000000000 R)).length cc2)), hsl2.far (fun b o e => by have := hfr b o e; show b ≠ w1.heap.size; omega) _, Lib.hid (fun b o e => by have := hfr b o e; omega), ?_, (hown.below hbw2).farSet (HB2.out.below hbw2) (by decide) _ _, (hb.trans (hbw2.mono hb.size)).setCell (p := ⟨w1.heap.size, 0, none⟩) hb1.size _⟩
          · simp only [List.length_singleton] at htl; omega
      case rest =>
        obtain ⟨rfl, A2, n2, cc2, X1, X2, hs2, HA2, hn2, hownx, hbx2⟩ := hcut
        clear HB1 HB2 c1 c2 f2 hl2 hsr HA hown hb hoW hsW HLr hnr hcu
        obtain ⟨m1, m2⟩ := box1 X1.out
        obtain ⟨m3, m4⟩ := box1 X2.out
        have hl3 := X2.out.lt
        have hl4 := X1.out.lt
        obtain ⟨hco, hfo, _, hlq⟩ := hownx.cellAt (i := j - 1) (by omega)
        generalize q.getD (j - 1) 0 = z at hco
        have HCm := Lib.hid (compare_any 1000000000 (by omega) A2 A' n2 n' cc2 c' R' b wc hs2 (hy.below hbx2) (by omega) (by omega))
        by_cases hge : R' < b
        · have HO : Hid (ordI R' b = -1) := ordI_lt hge
          go_wp2_with (go_at_call 159; refine HCm.out.mono ?_; rintro e w2 ⟨rfl, qq, rfl⟩; rw [HO.out])
          go_roundw
          case rel =>
            refine ⟨j - 1, R', n2, cc2, A2, q.set (j - 1) 0, by omega, by go_num, Lib.hid (X1.out.far (by simp) _), Lib.hid (X2.out.far (by simp; omega) _), (hs2.drew qq).far (p := ⟨w.heap.size + 1, j - 1, none⟩) (fun b o e => (HA2.out b o e).1) _, HA2, hge, (hownx.drewN qq).setInt (d := 0) rfl rfl, hsq.set (by omega), ?_, (below_drewN hbx2 qq).setCell (p := ⟨w.heap.size + 1, j - 1, none⟩) (by simp) _⟩
            have h := HST.out
            rw [Nat.div_eq_of_lt hge, Nat.mod_eq_of_lt hge] at h
            exact Lib.hid h
          case measure => simp only [intOf]; omega
        · have hz : 0 ≤ ordI R' b := by
            rcases Nat.lt_or_ge b R' with h | h
            · rw [ordI_gt h]; omega
            · obtain rfl : R' = b := by omega
              rw [ordI_eq]; omega
          have hdg : R' / b < 1000000000 := by rw [HR'.out]; exact Dec.div_digit hu hR
          have HSe : Hid (∀ qq, Calls Tryz.prog 160 #[.int .i64 1000000000, .func (.func 161) #[] #[.pointer (some ⟨w.heap.size, 0, none⟩), .pointer (some ⟨w1.heap.size, 0, none⟩)]] (wc.drewN qq) (RetNat .i64 (R' / b + 1) (wc.drewN qq))) :=
            fun qq => search_any w.heap.size w1.heap.size A' A2 n' n2 c' cc2 b R' (wc.drewN qq) m1 m3 ((hy.below hbx2).drew qq) (hs2.drew qq) (by omega) (by omega) hb0 hdg
          have HDM := Lib.hid (Nat.div_add_mod R' b)
          have hml : R' % b < b := Nat.mod_lt _ hb0
          generalize R' / b = d at hdg HSe HST HDM
          generalize R' % b = rr at HST HDM hml
          go_upto_region 10 with (first | (go_at_call 159; refine HCm.out.mono ?_; rintro e w2 ⟨rfl, qq, rfl⟩) | (go_at_call 160; refine (HSe.out qq).mono ?_; rintro e w3 ⟨rfl, hb3⟩))
          have hbc3 : Below wc.heap.size wc w3 := ⟨hb3.os, hb3.tape, hb3.output, hb3.size, hb3.block⟩
          have hbw3 : Below w.heap.size w w3 := hbx2.trans (hbc3.mono hbx2.size)
          have Y1 := Lib.hid (X1.out.below hbc3)
          have Y2 := Lib.hid (X2.out.below hbc3)
          have hown3 := hownx.below hbc3
          have hs3 := hs2.below hbc3
          have hy3 := hy.below hbw3
          obtain ⟨y1, _⟩ := box1 Y1.out
          obtain ⟨y3, y4⟩ := box1 Y2.out
          have hly := Y2.out.lt
          have hly1 := Y1.out.lt
          have hbW : Below w3.heap.size w3 (w3.alloc (.cells #[.int .u32 (d : Int)] 168)).drew := ((Below.refl _ _).alloc (Nat.le_refl _) _).drew
          have hone := (Sl.one w3 .u32 168 d).drew1
          have HT1 := Lib.hid (trim_any (some ⟨w3.heap.size, 0, none⟩) 1 1 [d] (w3.alloc (.cells #[.int .u32 (d : Int)] 168)).drew hone (by omega))
          have htr := hone.trimmed (B := 1000000000) (by omega) (Dec.Small.cons hdg Dec.Small.nil)
          rw [show Dec.lval 1000000000 [d] = d by simp [Dec.lval]] at htr
          have htl := trimZ_length_le [d]
          have hT2 := times_any A' (some ⟨w3.heap.size, 0, none⟩) n' _ c' 1 (Dec.limbs 1000000000 b) (Dec.limbs 1000000000 d) (w3.alloc (.cells #[.int .u32 (d : Int)] 168)).drew (hy3.below hbW) htr (by omega) (by simp only [List.length_singleton] at htl; omega) (Dec.limbs_small (by omega) b) (Dec.limbs_small (by omega) d)
          rw [Dec.lval_limbs (by omega), Dec.lval_limbs (by omega)] at hT2
          have HT2 := Lib.hid hT2
          have hle : b * d ≤ R' := by have := HDM.out; omega
          have HSub : Hid (R' - b * d = rr) := by have := HDM.out; show _ = _; omega
          clear hT2 htl hone htr HCm HSe m1 m2 m3 m4 hl3 hl4 hco hfo hlq
          go_cut [8, 9] (fun s8 s9 wx => s8 = .int .i64 ((j : Int) - 1) ∧ s9 = .int .u32 (d : Int) ∧ ∃ (A5 : Option Addr) (n5 c5 : Nat), Hid (BlkIs wx w.heap.size 174 #[.slice A' n' c']) ∧ Hid (BlkIs wx w1.heap.size 174 #[.slice A5 n5 c5]) ∧ Sl wx .u32 A5 n5 c5 (Dec.limbs 1000000000 rr) ∧ Hid (∀ b o, A5 = some ⟨b, o, none⟩ → b ≠ w.heap.size + 1 ∧ b ≠ w1.heap.size) ∧ Own wx w.heap.size 168 .u32 (some ⟨w.heap.size + 1, 0, none⟩) n n q ∧ Below w.heap.size w wx)
          case first =>
            go_region_law
              (first | (go_simp; go_at_call 158; refine HT1.out.mono ?_; rintro e wt ⟨rfl, rfl⟩) | (go_simp; go_at_call 162; refine HT2.out.mono ?_; rintro e w4 ⟨A4, n4, c4, rfl, hs4, hb4, hf4⟩; have hbw4 := hbW.trans (hb4.mono hbW.size); have z3 := (hbw4.cell (p := ⟨w1.heap.size, 0, none⟩) hly).trans y3; have hs24 := hs3.below hbw4; have HMi := Lib.hid (minus_any A2 A4 n2 n4 cc2 c4 _ _ w4 hs24 hs4 (by omega) (by rw [← hs24.len, ← hs4.len]; exact Dec.limbs_length_mono (by omega) hle) (Dec.limbs_small (by omega) _) (Dec.limbs_small (by omega) _) (by rw [Dec.lval_limbs (by omega), Dec.lval_limbs (by omega)]; exact hle))) | (go_simp; go_at_call 155; refine HMi.out.mono ?_; rintro e w5 ⟨A5, n5, c5, rfl, hs5, hb5, hf5⟩; have hbw5 := hbw4.trans (hb5.mono hbw4.size); have k1 := (hbw5.cell (p := ⟨w1.heap.size, 0, none⟩) hly).trans y3; have k3 := (hbw5.frozen (p := ⟨w1.heap.size, 0, none⟩) hly).trans y4; have k4 := Nat.lt_of_lt_of_le hly hbw5.size))
            all_goals (go_wp2_with fail; go_meet)
            all_goals
              rw [Dec.lval_limbs (by omega), Dec.lval_limbs (by omega), HSub.out] at hs5
              have hq1 := (hown3.lt rfl).2
              have hz4 := hbw4.size
              refine ⟨rfl, rfl, A5, n5, c5, Lib.hid ((Y1.out.below hbw5).far (by simp; omega) _), Lib.hid (by simpa using (Y2.out.below hbw5).set_ 0 (.slice A5 n5 c5)), hs5.far (p := ⟨w1.heap.size, 0, none⟩) (fun b o e => by have := hf5 b o e; show b ≠ w1.heap.size; omega) _, Lib.hid (fun b o e => by have := hf5 b o e; omega), (hown3.below hbw5).farSet (Y2.out.below hbw5) (by decide) _ _, (hbw3.trans (hbw5.mono hbw3.size)).setCell (p := ⟨w1.heap.size, 0, none⟩) hb1.size _⟩
          case rest =>
            obtain ⟨rfl, rfl, A5, n5, c5, V1, V2, hs5, HA5, hown5, hb5⟩ := hcut
            obtain ⟨hco, hfo, _, hlq⟩ := hown5.cellAt (i := j - 1) (by omega)
            generalize q.getD (j - 1) 0 = z at hco
            go_wp2
            go_roundw
            case rel => exact ⟨j - 1, rr, n5, c5, A5, q.set (j - 1) d, by omega, by go_num, Lib.hid (V1.out.far (by simp) _), Lib.hid (V2.out.far (by simp; omega) _), hs5.far (p := ⟨w.heap.size + 1, j - 1, none⟩) (fun b o e => (HA5.out b o e).1) _, HA5, hml, hown5.setInt (by omega) rfl, hsq.set hdg, HST, hb5.setCell (p := ⟨w.heap.size + 1, j - 1, none⟩) (by simp) _⟩
            case measure => simp only [intOf]; omega
    · have hjz : j = 0 := by omega
      subst hjz
      have HQ : Hid (Dec.lval 1000000000 q = a / b ∧ R = a % b) := by
        have h := HV.out
        rw [List.drop_zero, List.drop_zero, Dec.lval_limbs (by omega)] at h
        show _ ∧ _
        rw [h]
        exact ⟨by rw [Nat.add_comm, Nat.add_mul_div_right _ _ hb0, Nat.div_eq_of_lt hR, Nat.zero_add], by rw [Nat.add_comm, Nat.add_mul_mod_self_right, Nat.mod_eq_of_lt hR]⟩
      have hslq := hown.sl
      go_upto_region 12 with (fail)
      go_quiet ((go_at_call 158; exact Calls.quiet_of_same (trim_same _ _ _ _ _ (hslq.drew _) (by omega))))
      go_wp2
      go_ret2
      refine ⟨_, _, _, _, _, _, rfl, ?_, ?_, below_drewN hb _⟩
      · have := hslq.trimmed (B := 1000000000) (by omega) hsq
        rw [HQ.out.1] at this
        exact this.drew _
      · rw [← HQ.out.2]; exact hsr.drew _
end Go.Proofs.YtlbbfmijemnjdaaGreatDoor
/- number.short, Compare, Negate. -/
namespace Go.Proofs.YtlbbfmijemnjdaaGreatDoor
open Go.RowKit

def RetI64 (v : Int) (w : World) (e : Ending) (w' : World) : Prop := e = .returned (.int .i64 v) ∧ Below w.heap.size w w'

/-! ### short -/
end Go.Proofs.YtlbbfmijemnjdaaGreatDoor
/- number.Negate, Digits, FromInt, Small. -/
namespace Go.Proofs.YtlbbfmijemnjdaaGreatDoor
open Go.RowKit

def RetPure (v : Value) (w : World) (e : Ending) (w' : World) : Prop := e = .returned v ∧ w = w'
theorem str_of {D : ByteArray} {l : List UInt8} (h : D.data.toList = l) : D = ⟨l.toArray⟩ := by
  subst h; rw [Lib.mk_data]
theorem itoa_natNeg {v : Int} (h : v < 0) : Lib.itoa v = 45 :: Lib.decDigits v.natAbs := by
  obtain ⟨u, rfl⟩ : ∃ u : Nat, v = -(u : Int) := ⟨v.natAbs, by omega⟩
  rw [Dec.itoa_neg' (by omega)]; simp
theorem itoa_natPos {v : Int} (h : 0 ≤ v) : Lib.itoa v = Lib.decDigits v.natAbs := by
  obtain ⟨u, rfl⟩ : ∃ u : Nat, v = (u : Int) := ⟨v.natAbs, by omega⟩
  rw [Dec.itoa_pos]; simp
theorem itoa_ne_zero {v : Int} (h : v ≠ 0) : Lib.itoa v ≠ [48] := fun e => h (Dec.itoa_inj (e.trans Dec.itoa_zero.symm))
theorem first_byte {D : ByteArray} {c : UInt8} {r : List UInt8} (h : D.data.toList = c :: r) : ∃ hp : 0 < D.size, D[0] = c := by
  have hp : 0 < D.size := by rw [Lib.size_eq, h]; simp
  obtain ⟨hl, e⟩ := byte_at h 0 hp
  exact ⟨hp, by rw [e]; rfl⟩

set_option maxHeartbeats 1000000 in
theorem negate_any (l : List UInt8) (w : World) (hl : l.length ≤ 2500000) :
    Calls Tryz.prog 145 #[.string ⟨l.toArray⟩] w (RetPure (.string ⟨(Lib.itoa (-(Dec.dval l))).toArray⟩) w) := by
  have HD := Lib.hid (decimal_any l w (by omega))
  obtain ⟨D, hD⟩ : ∃ D : ByteArray, D = ⟨(norm l).toArray⟩ := ⟨_, rfl⟩
  rw [← hD] at HD
  have HT : Hid (D.data.toList = Lib.itoa (Dec.dval l)) := by rw [hD]; exact norm_eq l
  have hsz : D.size ≤ 2500001 := by rw [hD, Lib.size_eq]; have := norm_length l; show (norm l).length ≤ _; omega
  clear hD
  generalize Dec.dval l = v at HT
  by_cases h0 : v = 0
  · subst h0
    have hE : D.toList = [48] := by rw [Lib.toList_data, HT.out, Dec.itoa_zero]
    have hE2 : (D.toList == [48]) = true := by rw [hE]; rfl
    have HR : Hid (D = ⟨(Lib.itoa (-0)).toArray⟩) := str_of HT.out
    clear hE
    go_enter Tryz.func145, Tryz.ntmps145
    go_wp2_with fail
    refine HD.out.mono ?_
    rintro e w' ⟨rfl, rfl⟩
    go_wp2
    go_ret
    exact ⟨by rw [← HR.out]; rfl, rfl⟩
  · have hE2 : (D.toList == [48]) = false := by rw [Lib.toList_data, HT.out]; simpa using itoa_ne_zero h0
    by_cases hn : v < 0
    · obtain ⟨hp, e0⟩ := first_byte (HT.out.trans (itoa_natNeg hn))
      have hb : ((D[0].toNat : Int) == 45) = true := by rw [e0]; rfl
      have HR : Hid (D.extract 1 D.size = ⟨(Lib.itoa (-v)).toArray⟩) := by
        apply str_of
        rw [Lib.extract_data, HT.out, itoa_natNeg hn, List.drop_succ_cons, List.drop_zero, itoa_natPos (by omega), List.take_of_length_le]
        · congr 1; omega
        · rw [Lib.size_eq, HT.out, itoa_natNeg hn]; simp
      clear e0
      go_enter Tryz.func145, Tryz.ntmps145
      go_wp2_with fail
      refine HD.out.mono ?_
      rintro e w' ⟨rfl, rfl⟩
      go_wp2
      go_ret
      exact ⟨by rw [← HR.out]; rfl, rfl⟩
    · obtain ⟨c, r, hcr, _⟩ := Dec.decDigits_head (u := v.natAbs) (by omega)
      have hD2 : D.data.toList = c :: r := by rw [HT.out, itoa_natPos (by omega), hcr]
      obtain ⟨hp, e0⟩ := first_byte hD2
      have h45 : c ≠ 45 := Dec.head_ne45 (r := r) (by rw [← hcr]; exact Dec.digs_decDigits _)
      have hb : ((D[0].toNat : Int) == 45) = false := by
        rw [e0, beq_eq_false_iff_ne]
        intro e
        exact h45 (UInt8.toNat_inj.1 (by have : c.toNat = 45 := by omega
                                         simpa using this))
      have HR : Hid ((⟨#[45]⟩ : ByteArray) ++ D = ⟨(Lib.itoa (-v)).toArray⟩) := by
        apply str_of
        rw [itoa_natNeg (by omega), Int.natAbs_neg, ← itoa_natPos (v := v) (by omega), ← HT.out]
        simp
      clear e0 hD2 h45 hcr
      go_enter Tryz.func145, Tryz.ntmps145
      go_wp2_with fail
      refine HD.out.mono ?_
      rintro e w' ⟨rfl, rfl⟩
      go_wp2
      go_ret
      exact ⟨by rw [← HR.out]; rfl, rfl⟩

theorem digits_any (l : List UInt8) (w : World) (hl : l.length ≤ 2500000) :
    Calls Tryz.prog 133 #[.string ⟨l.toArray⟩] w (RetPure (.int .i64 ((Dec.mag (norm l)).length : Nat)) w) := by
  have HD := Lib.hid (decimal_any l w (by omega))
  have hnl := norm_length l
  have hml := Dec.mag_length_le (norm l)
  go_enter Tryz.func133, Tryz.ntmps133
  go_wp2_with fail
  refine HD.out.mono ?_
  rintro e w' ⟨rfl, rfl⟩
  go_wp2_with fail
  refine (trimPrefix_any (norm l) _).mono ?_
  rintro e w' ⟨rfl, rfl⟩
  go_wp2
  go_ret
  exact ⟨rfl, rfl⟩
end Go.Proofs.YtlbbfmijemnjdaaGreatDoor
/- number.add, Add, Subtract. -/
namespace Go.Proofs.YtlbbfmijemnjdaaGreatDoor
open Go.RowKit

theorem numStr_eq {s : Bool} {m : Nat} {v : Int} (h : (if s then -(m : Int) else m) = v) : numStr s m = Lib.itoa v := by unfold numStr; rw [h]
theorem length_limbs_add {a b n n' : Nat} (h : (Dec.limbs 1000000000 a).length = n) (h' : (Dec.limbs 1000000000 b).length = n') : (Dec.limbs 1000000000 (a + b)).length ≤ n + n' + 1 := by
  apply Dec.limbs_lt_length (by omega)
  have h1 := limbs_lt h
  have h2 := limbs_lt h'
  have h3 : 1000000000 ^ n ≤ 1000000000 ^ (n + n') := Nat.pow_le_pow_right (by omega) (by omega)
  have h4 : 1000000000 ^ n' ≤ 1000000000 ^ (n + n') := Nat.pow_le_pow_right (by omega) (by omega)
  rw [Nat.pow_succ]
  omega
end Go.Proofs.YtlbbfmijemnjdaaGreatDoor
/- number.Add, Subtract, Multiply. -/
namespace Go.Proofs.YtlbbfmijemnjdaaGreatDoor
open Go.RowKit

theorem dval_lt (l : List UInt8) : (Dec.dval l).natAbs < 10 ^ (l.length) ∨ Dec.dval l = 0 := by
  unfold Dec.dval
  cases hd : Dec.isDec l with
  | false => right; simp
  | true =>
    by_cases h0 : l = [48]
    · right; subst h0; decide
    · left
      obtain ⟨h1, _⟩ := (Dec.isDec_iff h0).1 hd
      have h2 := Dec.nval_lt _ h1
      have h3 : 10 ^ (Dec.mag l).length ≤ 10 ^ l.length := Nat.pow_le_pow_right (by omega) (Dec.mag_length_le l)
      simp only [if_true]
      split <;> omega
theorem dval_lt18 {l : List UInt8} {k : Nat} (h : l.length ≤ k) : (Dec.dval l).natAbs < 10 ^ k := by
  have h3 : 10 ^ l.length ≤ 10 ^ k := Nat.pow_le_pow_right (by omega) h
  have h4 : 0 < 10 ^ k := Nat.pow_pos (by omega)
  rcases dval_lt l with h1 | h1
  · omega
  · rw [h1]; simpa using h4
theorem itoa_length_any (v : Int) {k : Nat} (hk : 1 ≤ k) (h : v.natAbs < 10 ^ k) : (Lib.itoa v).length ≤ k + 1 := by
  have h1 := Dec.decDigits_length_le hk h
  by_cases hv : v < 0
  · rw [itoa_natNeg hv, List.length_cons]; omega
  · rw [itoa_natPos (by omega)]; omega
end Go.Proofs.YtlbbfmijemnjdaaGreatDoor
/- number.Multiply. -/
namespace Go.Proofs.YtlbbfmijemnjdaaGreatDoor
open Go.RowKit

theorem two_blocks (w : World) (T : TypeId) (u0 v0 u1 v1 : Value) :
    Hid (BlkIs ((w.alloc (.cells #[u0, v0] T)).alloc (.cells #[u1, v1] T)) w.heap.size T #[u0, v0]) ∧ Hid (BlkIs ((w.alloc (.cells #[u0, v0] T)).alloc (.cells #[u1, v1] T)) (w.heap.size + 1) T #[u1, v1]) ∧ Below w.heap.size w ((w.alloc (.cells #[u0, v0] T)).alloc (.cells #[u1, v1] T)) := by
  refine ⟨Lib.hid ((BlkIs.new w T _).alloc _), Lib.hid ?_, ((Below.refl _ _).alloc (Nat.le_refl _) _).alloc (by simp) _⟩
  have := BlkIs.new (w.alloc (.cells #[u0, v0] T)) T #[u1, v1]
  simpa using this

end Go.Proofs.YtlbbfmijemnjdaaGreatDoor
/- Quotient rounded down, and remainder: plain arithmetic. -/
namespace Go.Proofs.YtlbbfmijemnjdaaGreatDoor

def qd (x y : Int) : Int := if y = 0 then 0 else if 0 < y then x / y else (-x) / (-y)
def rm (x y : Int) : Int := x - qd x y * y
theorem qd_zero (x : Int) : qd x 0 = 0 := rfl
theorem rm_zero (x : Int) : rm x 0 = x := by simp [rm]
theorem ediv_of {x Y q r : Int} (hY : 0 < Y) (h : x = q * Y + r) (h0 : 0 ≤ r) (h1 : r < Y) : x / Y = q :=
  ((Int.ediv_emod_unique hY).2 ⟨by rw [h, Int.mul_comm]; omega, h0, h1⟩).1
theorem qd_of_pos {x y q r : Int} (hy : 0 < y) (h : x = q * y + r) (h0 : 0 ≤ r) (h1 : r < y) : qd x y = q ∧ rm x y = r := by
  have e : qd x y = q := by unfold qd; rw [if_neg (by omega), if_pos hy]; exact ediv_of hy h h0 h1
  exact ⟨e, by unfold rm; rw [e]; omega⟩
theorem qd_of_neg {x y q r : Int} (hy : y < 0) (h : x = q * y + r) (h0 : r ≤ 0) (h1 : y < r) : qd x y = q ∧ rm x y = r := by
  have e : qd x y = q := by
    unfold qd; rw [if_neg (by omega), if_neg (by omega)]
    exact ediv_of (by omega) (by rw [h, Int.mul_neg]; omega : -x = q * (-y) + (-r)) (by omega) (by omega)
  exact ⟨e, by unfold rm; rw [e]; omega⟩
/-- signs that agree -/
theorem qd_same {x y : Int} {s : Bool} (hy : y ≠ 0) (hx : decide (x < 0) = s) (hs : decide (y < 0) = s) :
    ((x.natAbs / y.natAbs : Nat) : Int) = qd x y ∧ (if s then -((x.natAbs % y.natAbs : Nat) : Int) else ((x.natAbs % y.natAbs : Nat) : Int)) = rm x y := by
  have h1 := Nat.div_add_mod x.natAbs y.natAbs
  have h2 := Nat.mod_lt x.natAbs (show 0 < y.natAbs by omega)
  generalize x.natAbs / y.natAbs = Q at *
  generalize x.natAbs % y.natAbs = R at *
  have h3 : (y.natAbs : Int) * Q + R = x.natAbs := by rw [← h1]; simp
  cases s with
  | true =>
    have hx' : x < 0 := of_decide_eq_true hx
    have hy' : y < 0 := of_decide_eq_true hs
    have e : x = (Q : Int) * y + -(R : Int) := by
      have : (y.natAbs : Int) = -y := by omega
      rw [this, Int.neg_mul, Int.mul_comm] at h3
      omega
    obtain ⟨a, b⟩ := qd_of_neg hy' e (by omega) (by omega)
    exact ⟨a.symm, by simp; omega⟩
  | false =>
    have hx' : ¬ x < 0 := of_decide_eq_false hx
    have hy' : ¬ y < 0 := of_decide_eq_false hs
    have e : x = (Q : Int) * y + (R : Int) := by
      have : (y.natAbs : Int) = y := by omega
      rw [this, Int.mul_comm] at h3
      omega
    obtain ⟨a, b⟩ := qd_of_pos (by omega) e (by omega) (by omega)
    exact ⟨a.symm, by simp; omega⟩
/-- signs that differ, nothing left -/
theorem qd_diff0 {x y : Int} {s : Bool} (hy : y ≠ 0) (hx : decide (x < 0) = !s) (hs : decide (y < 0) = s) (h0 : x.natAbs % y.natAbs = 0) :
    -((x.natAbs / y.natAbs : Nat) : Int) = qd x y ∧ rm x y = 0 := by
  have h1 := Nat.div_add_mod x.natAbs y.natAbs
  rw [h0] at h1
  generalize x.natAbs / y.natAbs = Q at *
  have h3 : (y.natAbs : Int) * Q = x.natAbs := by rw [← h1]; simp
  cases s with
  | true =>
    have hx' : ¬ x < 0 := of_decide_eq_false hx
    have hy' : y < 0 := of_decide_eq_true hs
    have e : x = -(Q : Int) * y + 0 := by
      have : (y.natAbs : Int) = -y := by omega
      rw [this, Int.neg_mul, Int.mul_comm] at h3
      rw [Int.neg_mul]; omega
    obtain ⟨a, b⟩ := qd_of_neg hy' e (by omega) (by omega)
    exact ⟨a.symm, b⟩
  | false =>
    have hx' : x < 0 := of_decide_eq_true hx
    have hy' : ¬ y < 0 := of_decide_eq_false hs
    have e : x = -(Q : Int) * y + 0 := by
      have : (y.natAbs : Int) = y := by omega
      rw [this, Int.mul_comm] at h3
      rw [Int.neg_mul]; omega
    obtain ⟨a, b⟩ := qd_of_pos (by omega) e (by omega) (by omega)
    exact ⟨a.symm, b⟩
/-- signs that differ, something left -/
theorem qd_diff {x y : Int} {s : Bool} (hy : y ≠ 0) (hx : decide (x < 0) = !s) (hs : decide (y < 0) = s) (h0 : x.natAbs % y.natAbs ≠ 0) :
    -((x.natAbs / y.natAbs + 1 : Nat) : Int) = qd x y ∧ (if s then -((y.natAbs - x.natAbs % y.natAbs : Nat) : Int) else ((y.natAbs - x.natAbs % y.natAbs : Nat) : Int)) = rm x y := by
  have h1 := Nat.div_add_mod x.natAbs y.natAbs
  have h2 := Nat.mod_lt x.natAbs (show 0 < y.natAbs by omega)
  generalize x.natAbs / y.natAbs = Q at *
  generalize x.natAbs % y.natAbs = R at *
  have h3 : (y.natAbs : Int) * Q + R = x.natAbs := by rw [← h1]; simp
  cases s with
  | true =>
    have hx' : ¬ x < 0 := of_decide_eq_false hx
    have hy' : y < 0 := of_decide_eq_true hs
    have e : x = -((Q : Int) + 1) * y + (y + R) := by
      have : (y.natAbs : Int) = -y := by omega
      rw [this, Int.neg_mul, Int.mul_comm] at h3
      rw [Int.neg_mul, Int.add_mul]; omega
    obtain ⟨a, b⟩ := qd_of_neg hy' e (by omega) (by omega)
    exact ⟨by rw [a]; omega, by simp; omega⟩
  | false =>
    have hx' : x < 0 := of_decide_eq_true hx
    have hy' : ¬ y < 0 := of_decide_eq_false hs
    have e : x = -((Q : Int) + 1) * y + (y - R) := by
      have : (y.natAbs : Int) = y := by omega
      rw [this, Int.mul_comm] at h3
      rw [Int.neg_mul, Int.add_mul]; omega
    obtain ⟨a, b⟩ := qd_of_pos (by omega) e (by omega) (by omega)
    exact ⟨by rw [a]; omega, by simp; omega⟩
end Go.Proofs.YtlbbfmijemnjdaaGreatDoor
/- number.Divide: quotient rounded down and remainder. -/
namespace Go.Proofs.YtlbbfmijemnjdaaGreatDoor
open Go.RowKit

def RetStr2 (a b : List UInt8) (w : World) (e : Ending) (w' : World) : Prop := e = .returned (.tuple #[.string ⟨a.toArray⟩, .string ⟨b.toArray⟩]) ∧ Below w.heap.size w w'
theorem natAbs_limbs {x : Int} {n : Nat} (h : (Dec.limbs 1000000000 x.natAbs).length = n) : n = 0 ↔ x = 0 := by
  subst h
  constructor
  · intro h
    have := (Dec.limbs_eq_nil (B := 1000000000) (by omega)).1 (List.eq_nil_of_length_eq_zero h)
    omega
  · rintro rfl; rfl
theorem length_limbs_div {a b n : Nat} (h : (Dec.limbs 1000000000 a).length = n) : (Dec.limbs 1000000000 (a / b)).length ≤ n := by
  rw [← h]; exact Dec.limbs_length_mono (by omega) (Nat.div_le_self a b)
theorem length_limbs_mod {a b n : Nat} (hb : 0 < b) (h : (Dec.limbs 1000000000 b).length = n) : (Dec.limbs 1000000000 (a % b)).length ≤ n := by
  rw [← h]; exact Dec.limbs_length_mono (by omega) (Nat.le_of_lt (Nat.mod_lt a hb))
theorem two_new (w : World) (T : TypeId) (u0 v0 u1 v1 : Value) : BlkIs ((w.alloc (.cells #[u0, v0] T)).alloc (.cells #[u1, v1] T)) w.heap.size T #[u0, v0] ∧ BlkIs ((w.alloc (.cells #[u0, v0] T)).alloc (.cells #[u1, v1] T)) (w.heap.size + 1) T #[u1, v1] := by
  obtain ⟨a, b, _⟩ := two_blocks w T u0 v0 u1 v1
  exact ⟨a.out, b.out⟩

theorem upd1 {w : World} {g : Nat} {t : TypeId} {u v v' : Value} (h : BlkIs w g t #[u, v]) : BlkIs (w.setCell ⟨g, 1, none⟩ v') g t #[u, v'] := by
  have := h.set_ 1 v'
  simpa using this
end Go.Proofs.YtlbbfmijemnjdaaGreatDoor
/- number.Divide, where nothing must be rounded. -/
namespace Go.Proofs.YtlbbfmijemnjdaaGreatDoor
open Go.RowKit

set_option maxHeartbeats 2000000 in
set_option maxRecDepth 100000 in
theorem divN_zero (a b : List UInt8) (w : World) (ha : a.length ≤ 2400000) (hb : b.length ≤ 2400000) (hy0 : Dec.dval b = 0) :
    Calls Tryz.prog 147 #[.string ⟨a.toArray⟩, .string ⟨b.toArray⟩] w (RetStr2 [48] (Lib.itoa (Dec.dval a)) w) := by
  have HP1 : Hid (∀ w', Calls Tryz.prog 151 #[.string ⟨a.toArray⟩] w' (RetInt (a.length + 1) (Dec.dval a) w')) := fun w' => parse_any a w' (by omega)
  have HP2 : Hid (∀ w', Calls Tryz.prog 151 #[.string ⟨b.toArray⟩] w' (RetInt (b.length + 1) 0 w')) := fun w' => by have := parse_any b w' (by omega); rwa [hy0] at this
  have HDc : Hid (∀ w', Calls Tryz.prog 144 #[.string ⟨a.toArray⟩] w' fun e w'' => e = .returned (.string ⟨(Lib.itoa (Dec.dval a)).toArray⟩) ∧ w' = w'') := fun w' => by have := decimal_any a w' (by omega); rwa [norm_eq] at this
  clear hy0
  go_enter Tryz.func147, Tryz.ntmps147
  go_wp2_with fail
  refine (HP1.out _).mono ?_
  rintro e w1 ⟨A1, n1, c1, rfl, hs1, hn1, hb1⟩
  go_wp2_with fail
  refine (HP2.out _).mono ?_
  rintro e w2 ⟨A2, n2, c2, rfl, hs2, hn2, hb2⟩
  have hbw2 := hb1.trans (hb2.mono hb1.size)
  obtain rfl : n2 = 0 := (natAbs_limbs (x := 0) hs2.len).2 rfl
  go_wp2_with fail
  refine (HDc.out _).mono ?_
  rintro e w' ⟨rfl, rfl⟩
  go_wp2
  go_ret2
  exact ⟨rfl, (hbw2.alloc hbw2.size _).alloc (by rw [World.size_alloc]; have := hbw2.size; omega) _⟩

set_option maxHeartbeats 4000000 in
set_option maxRecDepth 100000 in
theorem divN_easy (a b : List UInt8) (w : World) (ha : a.length ≤ 2400000) (hb : b.length ≤ 2400000) (ht : Tab w) (x y : Int) (hxv : Dec.dval a = x) (hyv : Dec.dval b = y) (hy0 : y ≠ 0) (s s' z : Bool) (hsd : decide (x < 0) = s) (hsd' : decide (y < 0) = s')
    (hz : (!(s == s')) = z) (hcase : z = false ∨ x.natAbs % y.natAbs = 0) (q r : List UInt8) (HQ : Hid (numStr z (x.natAbs / y.natAbs) = q)) (HR : Hid (numStr s' (x.natAbs % y.natAbs) = r)) :
    Calls Tryz.prog 147 #[.string ⟨a.toArray⟩, .string ⟨b.toArray⟩] w (RetStr2 q r w) := by
  have HP1 : Hid (∀ w', Calls Tryz.prog 151 #[.string ⟨a.toArray⟩] w' (RetInt (a.length + 1) x w')) := fun w' => by have := parse_any a w' (by omega); rwa [hxv] at this
  have HP2 : Hid (∀ w', Calls Tryz.prog 151 #[.string ⟨b.toArray⟩] w' (RetInt (b.length + 1) y w')) := fun w' => by have := parse_any b w' (by omega); rwa [hyv] at this
  have HSD := Lib.hid hsd
  have HSD' := Lib.hid hsd'
  have hyp : 0 < y.natAbs := by omega
  have HCase := Lib.hid hcase
  clear hcase
  clear hsd hsd' hxv hyv
  go_enter Tryz.func147, Tryz.ntmps147
  go_wp2_with fail
  refine (HP1.out _).mono ?_
  rintro e w1 ⟨A1, n1, c1, rfl, hs1, hn1, hb1⟩
  rw [HSD.out]
  go_wp2_with fail
  refine (HP2.out _).mono ?_
  rintro e w2 ⟨A2, n2, c2, rfl, hs2, hn2, hb2⟩
  rw [HSD'.out]
  have hbw2 := hb1.trans (hb2.mono hb1.size)
  have hn20 : ((n2 : Int) == 0) = false := by rw [beq_eq_false_iff_ne]; intro e; exact hy0 ((natAbs_limbs hs2.len).1 (by omega))
  clear hy0
  go_wp2_with fail
  obtain ⟨B0, B1, hbW⟩ := two_blocks w2 176 (.bool s) (.slice A1 n1 c1) (.bool s') (.slice A2 n2 c2)
  generalize ((w2.alloc (.cells #[.bool s, .slice A1 n1 c1] 176)).alloc (.cells #[.bool s', .slice A2 n2 c2] 176)) = W at *
  have hbwW := hbw2.trans (hbW.mono hbw2.size)
  have hsA := (hs1.below hb2).below hbW
  have hsB := hs2.below hbW
  have hl1 := hsA.len
  have hl2 := hsB.len
  have hlq := length_limbs_div (b := y.natAbs) hl1
  have hlr := length_limbs_mod (a := x.natAbs) hyp hl2
  clear hl1 hl2
  refine (divide_any A1 A2 n1 n2 c1 c2 _ _ W hsA hsB (by omega) (by omega) hyp).mono ?_
  rintro e w3 ⟨A3, n3, c3, A4, n4, c4, rfl, hs3, hs4, hb3⟩
  have hbw3 := hbwW.trans (hb3.mono hbwW.size)
  have hn3 : n3 ≤ n1 := by rw [← hs3.len]; exact hlq
  have hn4 : n4 ≤ n2 := by rw [← hs4.len]; exact hlr
  have HN4 := Lib.hid hs4.len
  have E0 := Lib.hid (B0.out.below hb3)
  have E1 := Lib.hid (B1.out.below hb3)
  obtain ⟨p00, p01, _, _, l0⟩ := E0.out.two
  obtain ⟨p10, p11, _, _, l1⟩ := E1.out.two
  have hsB3 := hsB.below hb3
  clear B0 B1
  go_upto_region 5 with (fail)
  go_cut [10, 11] (fun s10 s11 wx => ∃ g g' : Nat, s10 = .pointer (some ⟨g, 0, none⟩) ∧ s11 = .pointer (some ⟨g', 0, none⟩) ∧ g ≠ g' ∧ w3.heap.size ≤ g ∧ w3.heap.size ≤ g' ∧ Hid (BlkIs wx g 176 #[.bool z, .slice A3 n3 c3]) ∧ Hid (BlkIs wx g' 176 #[.bool s', .slice A4 n4 c4]) ∧ Below w3.heap.size w3 wx)
  case first =>
    go_region
    all_goals (go_wp2_with fail; go_meet)
    all_goals (go_wp2_with fail)
    all_goals (obtain ⟨t1, t2⟩ := two_new w3 176 (.bool z) (.slice A3 n3 c3) (.bool s') (.slice A4 n4 c4))
    all_goals (obtain ⟨t3, t4⟩ := two_new w3 176 (.bool s') (.slice A4 n4 c4) (.bool z) (.slice A3 n3 c3))
    all_goals first
      | exact ⟨w3.heap.size, w3.heap.size + 1, rfl, rfl, by omega, by omega, by omega, Lib.hid t1, Lib.hid t2, (((Below.refl _ _).alloc (Nat.le_refl _) _).alloc (by simp) _).drew⟩
      | exact ⟨w3.heap.size + 1, w3.heap.size, rfl, rfl, by omega, by omega, by omega, Lib.hid t4, Lib.hid t3, (((Below.refl _ _).alloc (Nat.le_refl _) _).alloc (by simp) _).drew⟩
  case rest =>
    obtain ⟨g, g', rfl, rfl, hgg, hg1, hg2, G0, G1, hbx⟩ := hcut
    have hbwx := hbw3.trans (hbx.mono hbw3.size)
    obtain ⟨q00, q01, f00, f01, m0⟩ := G0.out.two
    obtain ⟨q10, q11, f10, f11, m1⟩ := G1.out.two
    obtain ⟨_, v11, _, _, _⟩ := (E1.out.below hbx).two
    have hgd : z = true → ¬ 0 < n4 := fun e => by
      rcases HCase.out with h | h
      · rw [h] at e; cases e
      · have := HN4.out; rw [h] at this; simp [Dec.limbs_zero] at this; omega
    have K0 := G0
    have K1 := G1
    have hbwV := hbwx
    have HSq := Lib.hid (string_any z A3 n3 c3 _ wc.drew (hs3.below hbx).drew1 (by omega) (ht.below hbwV.drew))
    have HSr : Hid (∀ w7, Below wc.drew.heap.size wc.drew w7 → Calls Tryz.prog 153 #[.agg #[.bool s', .slice A4 n4 c4]] w7 (RetStr (numStr s' (x.natAbs % y.natAbs)) w7)) := fun w7 h7 => string_any s' A4 n4 c4 _ w7 ((hs4.below hbx).drew1.below h7) (by omega) (ht.below (hbwV.drew.trans (h7.mono hbwV.drew.size)))
    have HGD := Lib.hid hgd
    clear hgd
    by_cases hzt : z = true
    · have hn40 : n4 = 0 := by have := HGD.out hzt; omega
      subst hn40
      subst hzt
      go_upto_region 9 with (fail)
      go_region_held3 (fun w' => w'.cell? ⟨g, 0, none⟩ = some (.bool true) ∧ w'.cell? ⟨g, 1, none⟩ = some (.slice A3 n3 c3) ∧ w'.cell? ⟨g', 0, none⟩ = some (.bool s') ∧ w'.cell? ⟨g', 1, none⟩ = some (.slice A4 0 c4)) (go_keep)
        (first | (go_at_call 153; ((with_reducible refine HSq.out.mono ?_)); rintro e w7 ⟨rfl, hb7⟩; obtain ⟨t00, t01, _, _, _⟩ := (K0.out.drew.below hb7).two; obtain ⟨t10, t11, _, _, _⟩ := (K1.out.drew.below hb7).two; have HSr2 := Lib.hid (HSr.out w7 hb7)) | (go_at_call 153; ((with_reducible refine HSr2.out.mono ?_)); rintro e w8 ⟨rfl, hb8⟩; obtain ⟨u00, u01, _, _, _⟩ := ((K0.out.drew.below hb7).below hb8).two; obtain ⟨u10, u11, _, _, _⟩ := ((K1.out.drew.below hb7).below hb8).two))
      go_wp2
      go_ret2
      exact ⟨by rw [← HQ.out, ← HR.out]; rfl, (hbwV.drew.trans (hb7.mono hbwV.drew.size)).trans (hb8.mono (hbwV.drew.trans (hb7.mono hbwV.drew.size)).size)⟩
    · have hzf : z = false := by cases z <;> simp_all
      subst hzf
      go_upto_region 9 with (fail)
      go_region_held3 (fun w' => w'.cell? ⟨g, 0, none⟩ = some (.bool false) ∧ w'.cell? ⟨g, 1, none⟩ = some (.slice A3 n3 c3) ∧ w'.cell? ⟨g', 0, none⟩ = some (.bool s') ∧ w'.cell? ⟨g', 1, none⟩ = some (.slice A4 n4 c4)) (go_keep)
        (first | (go_at_call 153; ((with_reducible refine HSq.out.mono ?_)); rintro e w7 ⟨rfl, hb7⟩; obtain ⟨t00, t01, _, _, _⟩ := (K0.out.drew.below hb7).two; obtain ⟨t10, t11, _, _, _⟩ := (K1.out.drew.below hb7).two; have HSr2 := Lib.hid (HSr.out w7 hb7)) | (go_at_call 153; ((with_reducible refine HSr2.out.mono ?_)); rintro e w8 ⟨rfl, hb8⟩; obtain ⟨u00, u01, _, _, _⟩ := ((K0.out.drew.below hb7).below hb8).two; obtain ⟨u10, u11, _, _, _⟩ := ((K1.out.drew.below hb7).below hb8).two))
      go_wp2
      go_ret2
      exact ⟨by rw [← HQ.out, ← HR.out]; rfl, (hbwV.drew.trans (hb7.mono hbwV.drew.size)).trans (hb8.mono (hbwV.drew.trans (hb7.mono hbwV.drew.size)).size)⟩

end Go.Proofs.YtlbbfmijemnjdaaGreatDoor
/- number.Divide where the signs differ and something is left. -/
namespace Go.Proofs.YtlbbfmijemnjdaaGreatDoor
open Go.RowKit

set_option maxHeartbeats 4000000 in
set_option maxRecDepth 100000 in
theorem divN_hard (a b : List UInt8) (w : World) (ha : a.length ≤ 2400000) (hb : b.length ≤ 2400000) (ht : Tab w) (x y : Int) (hxv : Dec.dval a = x) (hyv : Dec.dval b = y) (hy0 : y ≠ 0) (s s' z : Bool) (hsd : decide (x < 0) = s) (hsd' : decide (y < 0) = s')
    (hz : (!(s == s')) = z) (hcase : z = true ∧ x.natAbs % y.natAbs ≠ 0) (q r : List UInt8) (HQ : Hid (numStr z (x.natAbs / y.natAbs + 1) = q)) (HR : Hid (numStr s' (y.natAbs - x.natAbs % y.natAbs) = r)) :
    Calls Tryz.prog 147 #[.string ⟨a.toArray⟩, .string ⟨b.toArray⟩] w (RetStr2 q r w) := by
  have HP1 : Hid (∀ w', Calls Tryz.prog 151 #[.string ⟨a.toArray⟩] w' (RetInt (a.length + 1) x w')) := fun w' => by have := parse_any a w' (by omega); rwa [hxv] at this
  have HP2 : Hid (∀ w', Calls Tryz.prog 151 #[.string ⟨b.toArray⟩] w' (RetInt (b.length + 1) y w')) := fun w' => by have := parse_any b w' (by omega); rwa [hyv] at this
  have HSD := Lib.hid hsd
  have HSD' := Lib.hid hsd'
  have hyp : 0 < y.natAbs := by omega
  obtain ⟨rfl, hrz⟩ := hcase
  have HRZ := Lib.hid hrz
  clear hrz
  clear hsd hsd' hxv hyv
  go_enter Tryz.func147, Tryz.ntmps147
  go_wp2_with fail
  refine (HP1.out _).mono ?_
  rintro e w1 ⟨A1, n1, c1, rfl, hs1, hn1, hb1⟩
  rw [HSD.out]
  go_wp2_with fail
  refine (HP2.out _).mono ?_
  rintro e w2 ⟨A2, n2, c2, rfl, hs2, hn2, hb2⟩
  rw [HSD'.out]
  have hbw2 := hb1.trans (hb2.mono hb1.size)
  have hn20 : ((n2 : Int) == 0) = false := by rw [beq_eq_false_iff_ne]; intro e; exact hy0 ((natAbs_limbs hs2.len).1 (by omega))
  clear hy0
  go_wp2_with fail
  obtain ⟨B0, B1, hbW⟩ := two_blocks w2 176 (.bool s) (.slice A1 n1 c1) (.bool s') (.slice A2 n2 c2)
  generalize ((w2.alloc (.cells #[.bool s, .slice A1 n1 c1] 176)).alloc (.cells #[.bool s', .slice A2 n2 c2] 176)) = W at *
  have hbwW := hbw2.trans (hbW.mono hbw2.size)
  have hsA := (hs1.below hb2).below hbW
  have hsB := hs2.below hbW
  have hl1 := hsA.len
  have hl2 := hsB.len
  have hlq := length_limbs_div (b := y.natAbs) hl1
  have hlr := length_limbs_mod (a := x.natAbs) hyp hl2
  clear hl1 hl2
  refine (divide_any A1 A2 n1 n2 c1 c2 _ _ W hsA hsB (by omega) (by omega) hyp).mono ?_
  rintro e w3 ⟨A3, n3, c3, A4, n4, c4, rfl, hs3, hs4, hb3⟩
  have hbw3 := hbwW.trans (hb3.mono hbwW.size)
  have hn3 : n3 ≤ n1 := by rw [← hs3.len]; exact hlq
  have hn4 : n4 ≤ n2 := by rw [← hs4.len]; exact hlr
  have HN4 := Lib.hid hs4.len
  have E0 := Lib.hid (B0.out.below hb3)
  have E1 := Lib.hid (B1.out.below hb3)
  obtain ⟨p00, p01, _, _, l0⟩ := E0.out.two
  obtain ⟨p10, p11, _, _, l1⟩ := E1.out.two
  have hsB3 := hsB.below hb3
  clear B0 B1
  go_upto_region 5 with (fail)
  go_cut [10, 11] (fun s10 s11 wx => ∃ g g' : Nat, s10 = .pointer (some ⟨g, 0, none⟩) ∧ s11 = .pointer (some ⟨g', 0, none⟩) ∧ g ≠ g' ∧ w3.heap.size ≤ g ∧ w3.heap.size ≤ g' ∧ Hid (BlkIs wx g 176 #[.bool true, .slice A3 n3 c3]) ∧ Hid (BlkIs wx g' 176 #[.bool s', .slice A4 n4 c4]) ∧ Below w3.heap.size w3 wx)
  case first =>
    go_region
    all_goals (go_wp2_with fail; go_meet)
    all_goals (go_wp2_with fail)
    all_goals (obtain ⟨t1, t2⟩ := two_new w3 176 (.bool true) (.slice A3 n3 c3) (.bool s') (.slice A4 n4 c4))
    all_goals (obtain ⟨t3, t4⟩ := two_new w3 176 (.bool s') (.slice A4 n4 c4) (.bool true) (.slice A3 n3 c3))
    all_goals first
      | exact ⟨w3.heap.size, w3.heap.size + 1, rfl, rfl, by omega, by omega, by omega, Lib.hid t1, Lib.hid t2, (((Below.refl _ _).alloc (Nat.le_refl _) _).alloc (by simp) _).drew⟩
      | exact ⟨w3.heap.size + 1, w3.heap.size, rfl, rfl, by omega, by omega, by omega, Lib.hid t4, Lib.hid t3, (((Below.refl _ _).alloc (Nat.le_refl _) _).alloc (by simp) _).drew⟩
  case rest =>
    obtain ⟨g, g', rfl, rfl, hgg, hg1, hg2, G0, G1, hbx⟩ := hcut
    have hbwx := hbw3.trans (hbx.mono hbw3.size)
    obtain ⟨q00, q01, f00, f01, m0⟩ := G0.out.two
    obtain ⟨q10, q11, f10, f11, m1⟩ := G1.out.two
    obtain ⟨_, v11, _, _, _⟩ := (E1.out.below hbx).two
    have hn40 : 0 < n4 := by
      rcases Nat.eq_zero_or_pos n4 with h | h
      · exfalso
        have := HN4.out
        rw [h] at this
        exact HRZ.out ((Dec.limbs_eq_nil (by omega)).1 (List.eq_nil_of_length_eq_zero this))
      · exact h
    have hPl := plus_any A3 (some ⟨wc.heap.size, 0, none⟩) n3 1 c3 1 _ [1] (wc.alloc (.cells #[.int .u32 1] 168)) ((hs3.below hbx).alloc _) (Sl.one wc .u32 168 1) (by omega) (by omega) (Dec.limbs_small (by omega) _) (Dec.Small.cons (by omega) Dec.Small.nil)
    rw [Dec.lval_limbs (by omega), show Dec.lval 1000000000 [1] = 1 by decide] at hPl
    have HPl := Lib.hid hPl
    clear hPl
    have hl3 := length_limbs_add (b := 1) (n' := 1) hs3.len (by decide)
    have hlen3 : n4 ≤ n2 := hn4
    have HMn : Hid (∀ V, Below w3.heap.size w3 V → Calls Tryz.prog 155 #[.slice A2 n2 c2, .slice A4 n4 c4] V (RetSl .u32 (Dec.limbs 1000000000 (y.natAbs - x.natAbs % y.natAbs)) V)) := fun V hV => by
      have := minus_any A2 A4 n2 n4 c2 c4 _ _ V (hsB3.below hV) (hs4.below hV) (by omega) hlen3 (Dec.limbs_small (by omega) _) (Dec.limbs_small (by omega) _) (by rw [Dec.lval_limbs (by omega), Dec.lval_limbs (by omega)]; exact Nat.le_of_lt (Nat.mod_lt _ hyp))
      rwa [Dec.lval_limbs (by omega), Dec.lval_limbs (by omega)] at this
    go_upto_region 7 with (fail)
    go_wp2_with fail
    refine HPl.out.mono ?_
    rintro e w5 ⟨A5, n5, c5, rfl, hs5, hb5, hf5⟩
    have hbc5 := ((Below.refl wc.heap.size wc).alloc (Nat.le_refl _) (.cells #[.int .u32 1] 168)).trans (hb5.mono (by simp))
    have G0' := Lib.hid (G0.out.below hbc5)
    have G1' := Lib.hid (G1.out.below hbc5)
    have E1' := Lib.hid ((E1.out.below hbx).below hbc5)
    obtain ⟨a00, a01, b00, b01, m2⟩ := G0'.out.two
    obtain ⟨a10, a11, b10, b11, m3⟩ := G1'.out.two
    obtain ⟨_, v51, _, _, m4⟩ := E1'.out.two
    have hw35 : Below w3.heap.size w3 (w5.setCell ⟨g, 1, none⟩ (.slice A5 n5 c5)) := (hbx.trans (hbc5.mono hbx.size)).setCell (p := ⟨g, 1, none⟩) hg1 _
    have H0 := Lib.hid (upd1 (v' := .slice A5 n5 c5) G0'.out)
    have H1 := Lib.hid (G1'.out.far (p := ⟨g, 1, none⟩) (Ne.symm hgg) (.slice A5 n5 c5))
    have HE := Lib.hid (E1'.out.far (p := ⟨g, 1, none⟩) (show w2.heap.size + 1 ≠ g by omega) (.slice A5 n5 c5))
    have hs5' := hs5.far (p := ⟨g, 1, none⟩) (fun b o e => by have := hf5 b o e; rw [World.size_alloc] at this; show b ≠ g; omega) (.slice A5 n5 c5)
    have hbw5 : Below w.heap.size w (w5.setCell ⟨g, 1, none⟩ (.slice A5 n5 c5)) := hbw3.trans (hw35.mono hbw3.size)
    have hn5 : n5 ≤ n3 + 2 := by rw [← hs5.len]; exact hl3
    clear q00 q01 f00 f01 q10 q11 f10 f11 G0 G1
    go_wp2_with fail
    generalize (w5.setCell ⟨g, 1, none⟩ (.slice A5 n5 c5)) = V at *
    obtain ⟨_, v61, _, _, m5⟩ := HE.out.two
    obtain ⟨_, _, _, _, m6⟩ := H0.out.two
    obtain ⟨_, _, _, _, m7⟩ := H1.out.two
    refine (HMn.out V hw35).mono ?_
    rintro e w6 ⟨A6, n6, c6, rfl, hs6, hb6, hf6⟩
    have J0 := Lib.hid (H0.out.below hb6)
    have J1 := Lib.hid (H1.out.below hb6)
    obtain ⟨_, _, _, _, _⟩ := J0.out.two
    obtain ⟨_, d11, _, e11, m8⟩ := J1.out.two
    have K0 := Lib.hid (J0.out.far (p := ⟨g', 1, none⟩) hgg (.slice A6 n6 c6))
    have K1 := Lib.hid (upd1 (v' := .slice A6 n6 c6) J1.out)
    have hs7 := hs6.far (p := ⟨g', 1, none⟩) (fun b o e => by have := hf6 b o e; show b ≠ g'; omega) (.slice A6 n6 c6)
    have hs8 := (hs5'.below hb6).far (p := ⟨g', 1, none⟩) (fun b o e => by have := hf5 b o e; rw [World.size_alloc] at this; show b ≠ g'; omega) (.slice A6 n6 c6)
    have hbwV : Below w.heap.size w (w6.setCell ⟨g', 1, none⟩ (.slice A6 n6 c6)) := (hbw5.trans (hb6.mono hbw5.size)).setCell (p := ⟨g', 1, none⟩) (by have := hbw3.size; show w.heap.size ≤ g'; omega) _
    have hn6 : n6 ≤ n2 := by
      rw [← hs6.len, ← hsB.len]; exact Dec.limbs_length_mono (by omega) (Nat.sub_le _ _)
    go_upto_region 9 with (fail)
    generalize (w6.setCell ⟨g', 1, none⟩ (.slice A6 n6 c6)) = U at *
    obtain ⟨r00, r01, _, _, _⟩ := K0.out.two
    obtain ⟨r10, r11, _, _, _⟩ := K1.out.two
    have HSq := Lib.hid (string_any true A5 n5 c5 _ U.drew hs8.drew1 (by omega) (ht.below hbwV.drew))
    have HSr : Hid (∀ w7, Below U.drew.heap.size U.drew w7 → Calls Tryz.prog 153 #[.agg #[.bool s', .slice A6 n6 c6]] w7 (RetStr (numStr s' (y.natAbs - x.natAbs % y.natAbs)) w7)) := fun w7 h7 => string_any s' A6 n6 c6 _ w7 (hs7.drew1.below h7) (by omega) (ht.below (hbwV.drew.trans (h7.mono hbwV.drew.size)))
    go_region_held3 (fun w' => w'.cell? ⟨g, 0, none⟩ = some (.bool true) ∧ w'.cell? ⟨g, 1, none⟩ = some (.slice A5 n5 c5) ∧ w'.cell? ⟨g', 0, none⟩ = some (.bool s') ∧ w'.cell? ⟨g', 1, none⟩ = some (.slice A6 n6 c6)) (go_keep)
      (first | (go_at_call 153; ((with_reducible refine HSq.out.mono ?_)); rintro e w7 ⟨rfl, hb7⟩; obtain ⟨t00, t01, _, _, _⟩ := (K0.out.drew.below hb7).two; obtain ⟨t10, t11, _, _, _⟩ := (K1.out.drew.below hb7).two; have HSr2 := Lib.hid (HSr.out w7 hb7)) | (go_at_call 153; ((with_reducible refine HSr2.out.mono ?_)); rintro e w8 ⟨rfl, hb8⟩; obtain ⟨u00, u01, _, _, _⟩ := ((K0.out.drew.below hb7).below hb8).two; obtain ⟨u10, u11, _, _, _⟩ := ((K1.out.drew.below hb7).below hb8).two))
    go_wp2
    go_ret2
    exact ⟨by rw [← HQ.out, ← HR.out]; rfl, (hbwV.drew.trans (hb7.mono hbwV.drew.size)).trans (hb8.mono (hbwV.drew.trans (hb7.mono hbwV.drew.size)).size)⟩

end Go.Proofs.YtlbbfmijemnjdaaGreatDoor
