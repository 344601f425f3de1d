/- (number.integer).String: the numeral of an integer. -/
import Derived.Test.YtgphkgmhcmffnaaGreatDoorJD
namespace Go.Proofs.YtgphkgmhcmffnaaGreatDoor
open Go.RowKit

theorem formatInt_any (n : Int) (w : World) (ht : Tab w) (h0 : -9223372036854775808 ≤ n) (h1 : n ≤ 9223372036854775807) :
    Calls Tryz.prog 140 #[.int .i64 n, .int .i64 10] w fun e w' => e = .returned (.string ⟨(Lib.itoa n).toArray⟩) ∧ Below w.heap.size w w' := by
  refine (Tryz.strconv_FormatInt_10 n h0 h1 w ht).mono ?_
  rintro e w' ⟨rfl, k, os, rfl⟩
  exact ⟨rfl, Lib.below_grow _ _ (Nat.le_refl _) _ _⟩
theorem zeros_cut (k : Nat) (hk : k ≤ 9) : ((⟨#[48, 48, 48, 48, 48, 48, 48, 48, 48]⟩ : ByteArray).extract k 9).data.toList = List.replicate (9 - k) 48 := by
  rw [Lib.extract_data]
  have : ∀ j : Fin 10, ((([48, 48, 48, 48, 48, 48, 48, 48, 48] : List UInt8).drop j.val).take (9 - j.val)) = List.replicate (9 - j.val) 48 := by decide
  exact this ⟨k, by omega⟩
theorem lval_ne_zero {B : Nat} (hB : 2 ≤ B) : ∀ (l : List Nat) (h : l ≠ []), l.getLast h ≠ 0 → Dec.lval B l ≠ 0
  | [], h, _ => absurd rfl h
  | [x], _, hl => by simpa [Dec.lval] using hl
  | x :: y :: r, _, hl => by
    have := lval_ne_zero hB (y :: r) (by simp) (by simpa using hl)
    simp only [Dec.lval] at this ⊢
    have h2 : 0 < B * (y + B * Dec.lval B r) := Nat.mul_pos (by omega) (by omega)
    omega
theorem drop_ne_zero {B v j : Nat} (hB : 2 ≤ B) (hj : j < (Dec.limbs B v).length) : Dec.lval B ((Dec.limbs B v).drop j) ≠ 0 := by
  have hne : (Dec.limbs B v).drop j ≠ [] := by intro e; have := congrArg List.length e; rw [List.length_drop] at this; simp at this; omega
  refine lval_ne_zero hB _ hne ?_
  rw [List.getLast_drop]
  exact Dec.limbs_getLast hB v _
/-- one limb more -/
theorem digits_round {v j : Nat} (h0 : 0 < j) (hj : j < (Dec.limbs 1000000000 v).length) :
    Lib.decDigits (Dec.lval 1000000000 ((Dec.limbs 1000000000 v).drop (j - 1))) = Lib.decDigits (Dec.lval 1000000000 ((Dec.limbs 1000000000 v).drop j)) ++ (List.replicate (9 - (Lib.decDigits ((Dec.limbs 1000000000 v).getD (j - 1) 0)).length) 48 ++ Lib.decDigits ((Dec.limbs 1000000000 v).getD (j - 1) 0)) := by
  obtain ⟨m, rfl⟩ : ∃ m, j = m + 1 := ⟨j - 1, by omega⟩
  rw [Nat.add_sub_cancel, Dec.lval_drop _ _ m (by omega), Dec.decDigits_cat (drop_ne_zero (by omega) hj) ((Dec.limbs_small (by omega) v).getD (by omega) m)]
  rfl
def signOf (ng : Bool) : List UInt8 := if ng then [45] else []
theorem itoa_sign (ng : Bool) {v : Nat} (hv : v ≠ 0) : Lib.itoa (if ng then -(v : Int) else v) = signOf ng ++ Lib.decDigits v := by
  cases ng
  · simp [signOf, Dec.itoa_pos]
  · simp [signOf, Dec.itoa_neg' hv]
theorem fresh_builder (w : World) (T e : TypeId) : Lib.IsBuilder T e w.heap.size w.heap.size (Lib.byteCells []) (w.alloc (.cells #[.pointer none, .slice none 0 0] T)) :=
  .inl ⟨Nat.le_refl _, .slice none 0 0, heap_alloc_new w _, World.ownsRow_nil _ _ _ _, by simp [Value.ownBlock]⟩

def numStr (ng : Bool) (v : Nat) : List UInt8 := Lib.itoa (if ng then -(v : Int) else v)
def RetStr (l : List UInt8) (w : World) (e : Ending) (w' : World) : Prop := e = .returned (.string ⟨l.toArray⟩) ∧ Below w.heap.size w w'
theorem signOf_length (ng : Bool) : (signOf ng).length ≤ 1 := by cases ng <;> simp [signOf]
theorem numStr_zero (ng : Bool) : numStr ng 0 = [48] := by cases ng <;> exact Dec.itoa_zero
theorem isBuilder_below {T e : TypeId} {B b : Nat} {bs : List Value} {w w' : World} (h : Lib.IsBuilder T e B b bs w) (hb : Below w.heap.size w w') : Lib.IsBuilder T e B b bs w' := by
  have key : ∀ p, Lib.BuilderAt T e B b p bs w → Lib.BuilderAt T e B b p bs w' := by
    rintro p ⟨h1, v, h2, h3, h4⟩
    have hlt : b < w.heap.size := by
      rcases Nat.lt_or_ge b w.heap.size with h | h
      · exact h
      · rw [Array.getElem?_eq_none h] at h2; cases h2
    refine ⟨h1, v, (hb.block b hlt).trans h2, ⟨h3.1, ?_⟩, h4⟩
    rcases h3.2 with hv | ⟨g, cap, cur, hv, hbg, hg, hr⟩
    · exact .inl hv
    · refine .inr ⟨g, cap, cur, hv, hbg, ?_, hr⟩
      rw [hb.block g ?_]; exact hg
      rcases Nat.lt_or_ge g w.heap.size with h | h
      · exact h
      · rw [Array.getElem?_eq_none h] at hg; cases hg
  exact h.imp (key _) (key _)
theorem box_cells {w W1 w' : World} {T : TypeId} {u v : Value} (h : W1 = w.alloc (.cells #[u, v] T)) (hb : Below (w.heap.size + 1) W1 w') : w'.cell? ⟨w.heap.size, 0, none⟩ = some u ∧ w'.cell? ⟨w.heap.size, 1, none⟩ = some v := by
  subst h
  have hk := (BlkIs.new w T #[u, v]).keep (hb.block w.heap.size (by omega))
  exact ⟨hk.cell 0, hk.cell 1⟩
theorem cut_size (k : Nat) : ((⟨#[48, 48, 48, 48, 48, 48, 48, 48, 48]⟩ : ByteArray).extract k 9).size ≤ 9 := by
  rw [Lib.size_eq, Lib.extract_data, List.length_take, List.length_drop]; simp
theorem bytes_bound (ng : Bool) {v n : Nat} (hl : (Dec.limbs 1000000000 v).length = n) (hn : n ≤ 100000000) (j : Nat) : (signOf ng ++ Lib.decDigits (Dec.lval 1000000000 ((Dec.limbs 1000000000 v).drop j))).length ≤ 1000000000000 := by
  have h1 := signOf_length ng
  have h2 := Dec.lval_lt (B := 1000000000) (by omega) ((Dec.limbs_small (by omega) v).drop j)
  rw [List.length_drop, hl] at h2
  have h3 : (1000000000 : Nat) ^ (n - j) ≤ 10 ^ (9 * n + 1) := by
    have e : (1000000000 : Nat) = 10 ^ 9 := by decide
    rw [e, ← Nat.pow_mul]
    exact Nat.pow_le_pow_right (by omega) (by omega)
  have h4 := Dec.decDigits_length_le (k := 9 * n + 1) (by omega) (Nat.lt_of_lt_of_le h2 h3)
  rw [List.length_append]
  omega

set_option maxHeartbeats 4000000 in
theorem string_any (ng : Bool) (A : Option Addr) (n c v : Nat) (w : World) (hx : Sl w .u32 A n c (Dec.limbs 1000000000 v)) (hn : n ≤ 100000000) (ht : Tab w) :
    Calls Tryz.prog 143 #[.agg #[.bool ng, .slice A n c]] w (RetStr (numStr ng v) w) := by
  have HL := Lib.hid hx.len
  by_cases h0 : n = 0
  · have hv : v = 0 := (Dec.limbs_eq_nil (B := 1000000000) (by omega)).1 (List.eq_nil_of_length_eq_zero (by rw [HL.out]; exact h0))
    subst h0
    subst hv
    go_enter Tryz.func143, Tryz.ntmps143
    go_wp2
    go_ret
    refine ⟨?_, (Below.refl _ _).alloc (Nat.le_refl _) _⟩
    rw [numStr_zero]; rfl
  · have hv : v ≠ 0 := fun e => h0 (by rw [← HL.out, e]; rfl)
    have HSg : Hid (∀ g, numStr g v = signOf g ++ Lib.decDigits v) := fun g => itoa_sign g hv
    have hb0 : ((n : Int) == 0) = false := by rw [beq_eq_false_iff_ne]; omega
    obtain ⟨b, off, rfl, hbl, hcx⟩ := hx.cells (by omega)
    have hct := hcx (n - 1) (by omega)
    clear hcx
    have hu := getD_lt (l := Dec.limbs 1000000000 v) (Dec.limbs_small (by omega) v) (by omega) (n - 1)
    have HTop : Hid (Dec.lval 1000000000 ((Dec.limbs 1000000000 v).drop (n - 1)) = (Dec.limbs 1000000000 v).getD (n - 1) 0) := by
      show _ = _
      rw [Dec.lval_drop _ _ (n - 1) (by rw [HL.out]; omega), List.drop_of_length_le (by rw [HL.out]; omega)]; simp [Dec.lval]
    generalize (Dec.limbs 1000000000 v).getD (n - 1) 0 = u at hct hu HTop
    clear hv
    cases ng
    · have HS := Lib.hid (HSg.out false)
      go_enter Tryz.func143, Tryz.ntmps143
      go_wp2_with fail
      obtain ⟨W1, hW1⟩ : ∃ W1, W1 = w.alloc (.cells #[.bool false, .slice (some ⟨b, off, none⟩) n c] 99) := ⟨_, rfl⟩
      have hW1s : W1.heap.size = w.heap.size + 1 := by rw [hW1]; simp
      have hW1b : Below w.heap.size w W1 := by rw [hW1]; exact (Below.refl _ _).alloc (Nat.le_refl _) _
      rw [← hW1]
      have hbu := fresh_builder W1 122 5
      rw [hW1s] at hbu
      have hbx : Below (w.heap.size + 1) W1 (W1.alloc (.cells #[.pointer none, .slice none 0 0] 122)) := (Below.refl _ _).alloc (by rw [hW1s]; exact Nat.le_refl _) _
      refine (itoa_any (u : Int) _ ((ht.below hW1b).alloc _) (by omega) (by omega)).mono ?_
      rintro e w2 ⟨rfl, hb2⟩
      have hbd2 : Below (w.heap.size + 1) W1 w2 := hbx.trans (hb2.mono (by rw [World.size_alloc, hW1s]; omega))
      have hB2 : Lib.IsBuilder 122 5 (w.heap.size + 1) (w.heap.size + 1) (Lib.byteCells (signOf false)) w2 := isBuilder_below hbu hb2
      have HI : Hid (Lib.itoa (u : Int) = Lib.decDigits u) := Dec.itoa_pos
      have hdl := Dec.decDigits_length_le (k := 9) (u := u) (by omega) (by omega)
      rw [HI.out]
      obtain ⟨S, hS⟩ : ∃ S : ByteArray, S = ⟨(Lib.decDigits u).toArray⟩ := ⟨_, rfl⟩
      rw [← hS]
      have HS1 : Hid (S.data.toList = Lib.decDigits u) := by rw [hS]; exact (rfl : (Lib.decDigits u).toArray.toList = _)
      have hS9 : S.size ≤ 9 := by rw [Lib.size_eq, HS1.out]; exact hdl
      clear hS hdl
      go_wp2_with fail
      refine (writeString_any (w.heap.size + 1) (w.heap.size + 1) _ S _ hB2 (by rw [Lib.byteCells_length]; have := signOf_length false; omega) (by have := hbd2.size; rw [hW1s] at this; exact this)).mono ?_
      rintro e w3 ⟨rfl, hB3, hb3⟩
      have hbd3 : Below (w.heap.size + 1) W1 w3 := hbd2.trans hb3
      have hB3' : Lib.IsBuilder 122 5 (w.heap.size + 1) (w.heap.size + 1) (Lib.byteCells (signOf false ++ Lib.decDigits (Dec.lval 1000000000 ((Dec.limbs 1000000000 v).drop (n - 1))))) w3 := by
        rw [HTop.out, Lib.byteCells_append]
        have := hB3
        rw [Lib.strCells_eq, HS1.out] at this
        exact .inr this
      obtain ⟨q0, q1⟩ := box_cells hW1 hbd3
      go_wp2
      go_loopw [4] (fun ix wr => ∃ j : Nat, j < n ∧ ix = .int .i64 ((j : Int) - 1) ∧ Lib.IsBuilder 122 5 (w.heap.size + 1) (w.heap.size + 1) (Lib.byteCells (signOf false ++ Lib.decDigits (Dec.lval 1000000000 ((Dec.limbs 1000000000 v).drop j)))) wr ∧ Below (w.heap.size + 1) W1 wr) (fun ix _ => (intOf ix + 1).toNat)
      case atStart => exact ⟨n - 1, by omega, by go_num, hB3', hbd3⟩
      case round =>
        obtain ⟨j, hj, rfl, hBr, hbr⟩ := hrel
        obtain ⟨p0, p1⟩ := box_cells hW1 hbr
        have hbw : Below w.heap.size w wr := hW1b.trans (hbr.mono (by omega))
        have hszr : w.heap.size + 1 ≤ wr.heap.size := by have := hbr.size; rw [hW1s] at this; exact this
        by_cases hj0 : 0 < j
        · obtain ⟨b', off', eA, _, hcr⟩ := (hx.below hbw).cells (by omega)
          injection eA with eA
          injection eA with eA1 eA2
          subst eA1 eA2
          have hcy := hcr (j - 1) (by omega)
          clear hcr
          have hy := getD_lt (l := Dec.limbs 1000000000 v) (Dec.limbs_small (by omega) v) (by omega) (j - 1)
          have HR := Lib.hid (digits_round (v := v) hj0 (by rw [HL.out]; exact hj))
          generalize (Dec.limbs 1000000000 v).getD (j - 1) 0 = y at hcy hy HR
          have hi1 : (0 : Int) ≤ (j : Int) - 1 := by omega
          have hi2 : (j : Int) - 1 < n := by omega
          have hi3 : ((j : Int) - 1).toNat = j - 1 := by omega
          go_wp2_with fail
          refine (itoa_any (y : Int) _ (ht.below hbw) (by omega) (by omega)).mono ?_
          rintro e w4 ⟨rfl, hb4⟩
          have hbd4 : Below (w.heap.size + 1) W1 w4 := hbr.trans (hb4.mono hszr)
          have hB4 := isBuilder_below hBr hb4
          have HI2 : Hid (Lib.itoa (y : Int) = Lib.decDigits y) := Dec.itoa_pos
          have hdl := Dec.decDigits_length_le (k := 9) (u := y) (by omega) (by omega)
          rw [HI2.out]
          obtain ⟨Y, hY⟩ : ∃ Y : ByteArray, Y = ⟨(Lib.decDigits y).toArray⟩ := ⟨_, rfl⟩
          rw [← hY]
          have HY1 : Hid (Y.data.toList = Lib.decDigits y) := by rw [hY]; exact (rfl : (Lib.decDigits y).toArray.toList = _)
          have hY9 : Y.size ≤ 9 := by rw [Lib.size_eq, HY1.out]; exact hdl
          have HYs : Hid (Y.size = (Lib.decDigits y).length) := by show _ = _; rw [Lib.size_eq, HY1.out]
          clear hY hdl
          have hszb : (Lib.byteCells (signOf false ++ Lib.decDigits (Dec.lval 1000000000 ((Dec.limbs 1000000000 v).drop j)))).length ≤ 1000000000000 := by
            rw [Lib.byteCells_length]; exact bytes_bound false HL.out hn j
          go_wp2_with fail
          refine (writeString_any (w.heap.size + 1) (w.heap.size + 1) _ _ _ hB4 (by have := cut_size Y.size; omega) (by have := hbd4.size; rw [hW1s] at this; exact this)).mono ?_
          rintro e w5 ⟨rfl, hB5, hb5⟩
          have hB5l := hszb
          go_wp2_with fail
          refine (writeString_any (w.heap.size + 1) (w.heap.size + 1) _ _ _ (.inr hB5) (by rw [List.length_append, Lib.strCells_length]; have := cut_size Y.size; omega) (by have := (hbd4.trans hb5).size; rw [hW1s] at this; exact this)).mono ?_
          rintro e w6 ⟨rfl, hB6, hb6⟩
          have hB7 : Lib.IsBuilder 122 5 (w.heap.size + 1) (w.heap.size + 1) (Lib.byteCells (signOf false ++ Lib.decDigits (Dec.lval 1000000000 ((Dec.limbs 1000000000 v).drop (j - 1))))) w6 := by
            rw [HR.out, ← List.append_assoc, ← List.append_assoc, Lib.byteCells_append, Lib.byteCells_append]
            have := hB6
            rw [Lib.strCells_eq, Lib.strCells_eq, zeros_cut _ hY9, HYs.out, HY1.out] at this
            exact .inr this
          have hbd6 := (hbd4.trans hb5).trans hb6
          go_wp2
          go_roundw
          case rel => exact ⟨j - 1, by omega, by go_num, hB7, hbd6⟩
          case measure => simp only [intOf]; omega
        · have hjz : j = 0 := by omega
          subst hjz
          go_wp2_with fail
          refine (Tryz.Builder_String_any (w.heap.size + 1) (w.heap.size + 1) _ _ hBr hszr).mono ?_
          rintro e w7 ⟨rfl, hb7⟩
          go_wp2
          go_ret
          refine ⟨?_, hW1b.trans ((hbr.trans hb7).mono (by omega))⟩
          rw [HS.out, Dec.lval_limbs (by omega)]
          rfl
    · have HS := Lib.hid (HSg.out true)
      go_enter Tryz.func143, Tryz.ntmps143
      go_wp2_with fail
      obtain ⟨W1, hW1⟩ : ∃ W1, W1 = w.alloc (.cells #[.bool true, .slice (some ⟨b, off, none⟩) n c] 99) := ⟨_, rfl⟩
      have hW1s : W1.heap.size = w.heap.size + 1 := by rw [hW1]; simp
      have hW1b : Below w.heap.size w W1 := by rw [hW1]; exact (Below.refl _ _).alloc (Nat.le_refl _) _
      rw [← hW1]
      have hbu := fresh_builder W1 122 5
      rw [hW1s] at hbu
      have hbx : Below (w.heap.size + 1) W1 (W1.alloc (.cells #[.pointer none, .slice none 0 0] 122)) := (Below.refl _ _).alloc (by rw [hW1s]; exact Nat.le_refl _) _
      refine (writeByte_any (w.heap.size + 1) (w.heap.size + 1) _ 45 _ hbu (by simp [Lib.byteCells]) (by rw [World.size_alloc, hW1s]; omega)).mono ?_
      rintro e w9 ⟨rfl, hB9, hb9⟩
      have hbd9 := hbx.trans hb9
      have hbw9 : Below w.heap.size w w9 := hW1b.trans (hbd9.mono (by omega))
      have hsz9 : w.heap.size + 1 ≤ w9.heap.size := by have := hbd9.size; rw [hW1s] at this; exact this
      obtain ⟨s0, s1⟩ := box_cells hW1 hbd9
      have hct9 := (hbw9.cell (p := ⟨b, off + (n - 1), none⟩) hbl).trans hct
      go_wp2_with fail
      refine (itoa_any (u : Int) _ (ht.below hbw9) (by omega) (by omega)).mono ?_
      rintro e w2 ⟨rfl, hb2⟩
      have hbd2 : Below (w.heap.size + 1) W1 w2 := hbd9.trans (hb2.mono hsz9)
      have hB2 : Lib.IsBuilder 122 5 (w.heap.size + 1) (w.heap.size + 1) (Lib.byteCells (signOf true)) w2 := isBuilder_below (.inr hB9) hb2
      have HI : Hid (Lib.itoa (u : Int) = Lib.decDigits u) := Dec.itoa_pos
      have hdl := Dec.decDigits_length_le (k := 9) (u := u) (by omega) (by omega)
      rw [HI.out]
      obtain ⟨S, hS⟩ : ∃ S : ByteArray, S = ⟨(Lib.decDigits u).toArray⟩ := ⟨_, rfl⟩
      rw [← hS]
      have HS1 : Hid (S.data.toList = Lib.decDigits u) := by rw [hS]; exact (rfl : (Lib.decDigits u).toArray.toList = _)
      have hS9 : S.size ≤ 9 := by rw [Lib.size_eq, HS1.out]; exact hdl
      clear hS hdl
      go_wp2_with fail
      refine (writeString_any (w.heap.size + 1) (w.heap.size + 1) _ S _ hB2 (by rw [Lib.byteCells_length]; have := signOf_length true; omega) (by have := hbd2.size; rw [hW1s] at this; exact this)).mono ?_
      rintro e w3 ⟨rfl, hB3, hb3⟩
      have hbd3 : Below (w.heap.size + 1) W1 w3 := hbd2.trans hb3
      have hB3' : Lib.IsBuilder 122 5 (w.heap.size + 1) (w.heap.size + 1) (Lib.byteCells (signOf true ++ Lib.decDigits (Dec.lval 1000000000 ((Dec.limbs 1000000000 v).drop (n - 1))))) w3 := by
        rw [HTop.out, Lib.byteCells_append]
        have := hB3
        rw [Lib.strCells_eq, HS1.out] at this
        exact .inr this
      obtain ⟨q0, q1⟩ := box_cells hW1 hbd3
      go_wp2
      go_loopw [4] (fun ix wr => ∃ j : Nat, j < n ∧ ix = .int .i64 ((j : Int) - 1) ∧ Lib.IsBuilder 122 5 (w.heap.size + 1) (w.heap.size + 1) (Lib.byteCells (signOf true ++ Lib.decDigits (Dec.lval 1000000000 ((Dec.limbs 1000000000 v).drop j)))) wr ∧ Below (w.heap.size + 1) W1 wr) (fun ix _ => (intOf ix + 1).toNat)
      case atStart => exact ⟨n - 1, by omega, by go_num, hB3', hbd3⟩
      case round =>
        obtain ⟨j, hj, rfl, hBr, hbr⟩ := hrel
        obtain ⟨p0, p1⟩ := box_cells hW1 hbr
        have hbw : Below w.heap.size w wr := hW1b.trans (hbr.mono (by omega))
        have hszr : w.heap.size + 1 ≤ wr.heap.size := by have := hbr.size; rw [hW1s] at this; exact this
        by_cases hj0 : 0 < j
        · obtain ⟨b', off', eA, _, hcr⟩ := (hx.below hbw).cells (by omega)
          injection eA with eA
          injection eA with eA1 eA2
          subst eA1 eA2
          have hcy := hcr (j - 1) (by omega)
          clear hcr
          have hy := getD_lt (l := Dec.limbs 1000000000 v) (Dec.limbs_small (by omega) v) (by omega) (j - 1)
          have HR := Lib.hid (digits_round (v := v) hj0 (by rw [HL.out]; exact hj))
          generalize (Dec.limbs 1000000000 v).getD (j - 1) 0 = y at hcy hy HR
          have hi1 : (0 : Int) ≤ (j : Int) - 1 := by omega
          have hi2 : (j : Int) - 1 < n := by omega
          have hi3 : ((j : Int) - 1).toNat = j - 1 := by omega
          go_wp2_with fail
          refine (itoa_any (y : Int) _ (ht.below hbw) (by omega) (by omega)).mono ?_
          rintro e w4 ⟨rfl, hb4⟩
          have hbd4 : Below (w.heap.size + 1) W1 w4 := hbr.trans (hb4.mono hszr)
          have hB4 := isBuilder_below hBr hb4
          have HI2 : Hid (Lib.itoa (y : Int) = Lib.decDigits y) := Dec.itoa_pos
          have hdl := Dec.decDigits_length_le (k := 9) (u := y) (by omega) (by omega)
          rw [HI2.out]
          obtain ⟨Y, hY⟩ : ∃ Y : ByteArray, Y = ⟨(Lib.decDigits y).toArray⟩ := ⟨_, rfl⟩
          rw [← hY]
          have HY1 : Hid (Y.data.toList = Lib.decDigits y) := by rw [hY]; exact (rfl : (Lib.decDigits y).toArray.toList = _)
          have hY9 : Y.size ≤ 9 := by rw [Lib.size_eq, HY1.out]; exact hdl
          have HYs : Hid (Y.size = (Lib.decDigits y).length) := by show _ = _; rw [Lib.size_eq, HY1.out]
          clear hY hdl
          have hszb : (Lib.byteCells (signOf true ++ Lib.decDigits (Dec.lval 1000000000 ((Dec.limbs 1000000000 v).drop j)))).length ≤ 1000000000000 := by
            rw [Lib.byteCells_length]; exact bytes_bound true HL.out hn j
          go_wp2_with fail
          refine (writeString_any (w.heap.size + 1) (w.heap.size + 1) _ _ _ hB4 (by have := cut_size Y.size; omega) (by have := hbd4.size; rw [hW1s] at this; exact this)).mono ?_
          rintro e w5 ⟨rfl, hB5, hb5⟩
          have hB5l := hszb
          go_wp2_with fail
          refine (writeString_any (w.heap.size + 1) (w.heap.size + 1) _ _ _ (.inr hB5) (by rw [List.length_append, Lib.strCells_length]; have := cut_size Y.size; omega) (by have := (hbd4.trans hb5).size; rw [hW1s] at this; exact this)).mono ?_
          rintro e w6 ⟨rfl, hB6, hb6⟩
          have hB7 : Lib.IsBuilder 122 5 (w.heap.size + 1) (w.heap.size + 1) (Lib.byteCells (signOf true ++ Lib.decDigits (Dec.lval 1000000000 ((Dec.limbs 1000000000 v).drop (j - 1))))) w6 := by
            rw [HR.out, ← List.append_assoc, ← List.append_assoc, Lib.byteCells_append, Lib.byteCells_append]
            have := hB6
            rw [Lib.strCells_eq, Lib.strCells_eq, zeros_cut _ hY9, HYs.out, HY1.out] at this
            exact .inr this
          have hbd6 := (hbd4.trans hb5).trans hb6
          go_wp2
          go_roundw
          case rel => exact ⟨j - 1, by omega, by go_num, hB7, hbd6⟩
          case measure => simp only [intOf]; omega
        · have hjz : j = 0 := by omega
          subst hjz
          go_wp2_with fail
          refine (Tryz.Builder_String_any (w.heap.size + 1) (w.heap.size + 1) _ _ hBr hszr).mono ?_
          rintro e w7 ⟨rfl, hb7⟩
          go_wp2
          go_ret
          refine ⟨?_, hW1b.trans ((hbr.trans hb7).mono (by omega))⟩
          rw [HS.out, Dec.lval_limbs (by omega)]
          rfl
end Go.Proofs.YtgphkgmhcmffnaaGreatDoor
