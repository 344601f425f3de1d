/- number.decimal and number.parse: the sign and the limbs of a decimal. -/
import Derived.Test.YtcdgckbdplkdbaaDoorBlk
import Derived.Test.YtcdgckbdplkdbaaDoorValid
import Derived.Test.YtcdgckbdplkdbaaDoorTimes
import Derived.Lib.AtoiErrMem
namespace Go.Proofs.YtcdgckbdplkdbaaDoor
open Go.RowKit

/-! ### library calls, their worlds said by 'Below' -/
theorem parseUint_any (s : ByteArray) (w : World) (h : Dec.digs s.data.toList = true) (h0 : s.data.toList ≠ []) (h9 : s.data.toList.length ≤ 9) :
    Calls Tryd.prog 60 #[.string s, .int .i64 10, .int .i64 32] w fun e w' => e = .returned (.tuple #[.int .u64 (Dec.nval s.data.toList : Nat), .nilIface]) ∧ Below w.heap.size w w' := by
  have hs : s.size ≤ 9 := by rw [Lib.size_eq]; exact h9
  refine (Tryd.strconv_ParseUint_10_at32_ok s (by omega) _ (Dec.parseUint32 h h0 h9) w).mono ?_
  rintro e w' ⟨rfl, hw⟩
  refine ⟨rfl, ?_⟩
  rcases hw with rfl | rfl
  · exact Below.refl _ _
  · exact Lib.bytesWorld_below _ _ _
theorem parseInt_any (l : List UInt8) (w : World) (h : Dec.isDec l = true) (h18 : l.length ≤ 18) :
    Calls Tryd.prog 57 #[.string ⟨l.toArray⟩, .int .i64 10, .int .i64 64] w fun e w' => e = .returned (.tuple #[.int .i64 (Dec.dval l), .nilIface]) ∧ Below w.heap.size w w' := by
  have hs : (⟨l.toArray⟩ : ByteArray).size ≤ 18 := by rw [Lib.size_eq]; exact h18
  refine (Tryd.strconv_ParseInt_10_at64_ok ⟨l.toArray⟩ (by omega) _ (Dec.parseInt64_dec h h18) w).mono ?_
  rintro e w' ⟨rfl, hw⟩
  refine ⟨rfl, ?_⟩
  rcases hw with rfl | ⟨t, rfl⟩
  · exact Below.refl _ _
  · exact Lib.bytesWorld_below _ _ _

/-! ### decimal -/
def norm (l : List UInt8) : List UInt8 := if Dec.isDec l then l else [48]
theorem norm_dec (l : List UInt8) : Dec.isDec (norm l) = true := by
  unfold norm; split
  · assumption
  · rfl
theorem norm_eq (l : List UInt8) : norm l = Lib.itoa (Dec.dval l) := by
  unfold norm
  split
  · exact (Dec.itoa_dval ‹_›).symm
  · rename_i h
    unfold Dec.dval; rw [if_neg h, Dec.itoa_zero]
theorem norm_length (l : List UInt8) : (norm l).length ≤ l.length + 1 := by
  unfold norm; split <;> simp
theorem dval_norm (l : List UInt8) : Dec.dval (norm l) = Dec.dval l := by rw [norm_eq, Dec.dval_itoa]
theorem decimal_any (l : List UInt8) (w : World) (hl : l.length ≤ 1000000000) :
    Calls Tryd.prog 37 #[.string ⟨l.toArray⟩] w fun e w' => e = .returned (.string ⟨(norm l).toArray⟩) ∧ w = w' := by
  cases hv : Dec.isDec l with
  | true =>
    have HN : Hid (norm l = l) := by show _ = _; unfold norm; rw [if_pos hv]
    have hc := valid_any l w hl
    rw [hv] at hc
    have HC := Lib.hid hc
    clear hc hv
    go_enter Tryd.func37, Tryd.ntmps37
    go_wp2_with fail
    refine HC.out.mono ?_
    rintro e w' ⟨rfl, rfl⟩
    go_wp2
    go_ret
    exact ⟨by rw [HN.out]; rfl, rfl⟩
  | false =>
    have HN : Hid (norm l = [48]) := by show _ = _; unfold norm; rw [if_neg (by rw [hv]; simp)]
    have hc := valid_any l w hl
    rw [hv] at hc
    have HC := Lib.hid hc
    clear hc hv
    go_enter Tryd.func37, Tryd.ntmps37
    go_wp2_with fail
    refine HC.out.mono ?_
    rintro e w' ⟨rfl, rfl⟩
    go_wp2
    go_ret
    exact ⟨by rw [HN.out]; rfl, rfl⟩
/-- the digits of a decimal -/
theorem mag_norm (l : List UInt8) : Dec.digs (Dec.mag (norm l)) = true ∧ Dec.mag (norm l) ≠ [] ∧ Dec.nval (Dec.mag (norm l)) = (Dec.dval l).natAbs ∧ (decide ((Dec.mag (norm l)).length < (norm l).length)) = decide (Dec.dval l < 0) := by
  have hd := norm_dec l
  have hv := dval_norm l
  generalize norm l = s at *
  by_cases h0 : s = [48]
  · subst h0
    rw [← hv]; decide
  · obtain ⟨h1, h2⟩ := (Dec.isDec_iff h0).1 hd
    have hz := (Dec.decDigits_nval _ h1 h2).2
    obtain ⟨c, r, e, _⟩ := h2
    refine ⟨h1, by rw [e]; simp, ?_, ?_⟩
    · rw [← hv]; unfold Dec.dval; rw [if_pos hd]
      split <;> omega
    · rw [← hv]; unfold Dec.dval; rw [if_pos hd]
      cases hn : Dec.neg s with
      | true =>
        have := congrArg List.length (Dec.cons_of_neg hn)
        rw [List.length_cons] at this
        rw [if_pos rfl, decide_eq_true (by omega), decide_eq_true (by omega)]
      | false =>
        rw [Dec.mag_of_not hn, if_neg (by simp), decide_eq_false (by omega), decide_eq_false (by omega)]

/-! ### parse -/
/-- a struct 'integer' that stands for v -/
def RetInt (K : Nat) (v : Int) (w : World) (e : Ending) (w' : World) : Prop :=
  ∃ A n c, e = .returned (.agg #[.bool (decide (v < 0)), .slice A n c]) ∧ Sl w' .u32 A n c (Dec.limbs 1000000000 v.natAbs) ∧ n ≤ K ∧ Below w.heap.size w w'
theorem Own.neBlk {w : World} {base : Nat} {E t : TypeId} {k : IntKind} {A : Option Addr} {n c g : Nat} {l : List Nat} {cs : Array Value} (h : Own w base E k A n c l) (hb : BlkIs w g t cs) (hne : E ≠ t) : A ≠ some ⟨g, 0, none⟩ := by
  rintro rfl
  rcases h.own.2 with ⟨hv, _⟩ | ⟨g', cap, cur, hv, _, hg, _⟩
  · simp only [Value.slice.injEq] at hv; cases hv.1
  · simp only [Value.slice.injEq] at hv
    obtain ⟨e, _⟩ := hv
    injection e with e
    injection e with e1
    subst e1
    unfold BlkIs at hb
    rw [hg] at hb
    injection hb with hb
    injection hb with _ ht
    exact hne ht
theorem Own.farSet {w : World} {base : Nat} {E t : TypeId} {k : IntKind} {A : Option Addr} {n c g : Nat} {l : List Nat} {cs : Array Value} (h : Own w base E k A n c l) (hb : BlkIs w g t cs) (hne : E ≠ t) (i : Nat) (u : Value) : Own (w.setCell ⟨g, i, none⟩ u) base E k A n c l :=
  h.keep fun g' e => Below.heap_setCell w _ u g' (by rintro rfl; exact h.neBlk hb hne e)
theorem BlkIs.keep2 {w w' : World} {g : Nat} {t : TypeId} {u v : Value} (h : BlkIs w g t #[u, v]) (e : w'.heap[g]? = w.heap[g]?) :
    w'.cell? ⟨g, 0, none⟩ = some u ∧ w'.cell? ⟨g, 1, none⟩ = some v ∧ w'.frozen? ⟨g, 0, none⟩ = false ∧ w'.frozen? ⟨g, 1, none⟩ = false ∧ Hid (BlkIs w' g t #[u, v]) ∧ g < w'.heap.size := by
  have h' := h.keep e
  exact ⟨h'.cell 0, h'.cell 1, h'.frozen 0, h'.frozen 1, Lib.hid h', h'.lt⟩
theorem length_limbs_le {L x : Nat} (h : x < 10 ^ L) : (Dec.limbs 1000000000 x).length ≤ L :=
  Dec.limbs_lt_length (by omega) (Nat.lt_of_lt_of_le h (Nat.pow_le_pow_left (by omega) L))
theorem extract_lo (D : ByteArray) (k : Nat) : (D.extract 0 k).data.toList ++ (D.extract k D.size).data.toList = D.data.toList := by
  rw [Lib.extract_data, Lib.extract_data, List.drop_zero, Nat.sub_zero, List.take_of_length_le (l := D.data.toList.drop k) (by rw [List.length_drop, ← Lib.size_eq]; omega), List.take_append_drop]

def strLen : Value → Nat
  | .string s => s.size
  | _ => 0
set_option maxHeartbeats 1000000 in
theorem parse_any (l : List UInt8) (w : World) (hl : l.length ≤ 1000000) :
    Calls Tryd.prog 43 #[.string ⟨l.toArray⟩] w (RetInt (l.length + 1) (Dec.dval l) w) := by
  obtain ⟨hd1, hd2, hd3, hd4⟩ := mag_norm l
  have HD1 := Lib.hid hd1
  have HD2 := Lib.hid hd2
  have HD3 := Lib.hid hd3
  have hml : (Dec.mag (norm l)).length ≤ l.length + 1 := Nat.le_trans (Dec.mag_length_le _) (norm_length l)
  have hnl := norm_length l
  have HD4 := Lib.hid hd4
  clear hd1 hd2 hd3 hd4
  go_enter Tryd.func43, Tryd.ntmps43
  go_wp2_with fail
  refine (decimal_any l _ (by omega)).mono ?_
  rintro e w' ⟨rfl, rfl⟩
  go_wp2_with fail
  refine (trimPrefix_any (norm l) _).mono ?_
  rintro e w' ⟨rfl, rfl⟩
  obtain ⟨D, hD⟩ : ∃ D : ByteArray, D = ⟨(Dec.mag (norm l)).toArray⟩ := ⟨_, rfl⟩
  rw [← hD]
  have HT : Hid (D.data.toList = Dec.mag (norm l)) := by rw [hD]; exact (rfl : (Dec.mag (norm l)).toArray.toList = _)
  clear hD
  have hsz : D.size ≤ l.length + 1 := by rw [Lib.size_eq, HT.out]; exact hml
  obtain ⟨D0, hD0⟩ : ∃ D0 : ByteArray, D0 = ⟨(norm l).toArray⟩ := ⟨_, rfl⟩
  rw [← hD0]
  have hsz0 : D0.size ≤ l.length + 1 := by rw [hD0, Lib.size_eq]; exact hnl
  have hneg : decide (D.size < D0.size) = decide (Dec.dval l < 0) := by
    rw [hD0, Lib.size_eq, Lib.size_eq, HT.out]; exact HD4.out
  clear hD0 HD4 hnl hml
  generalize hng : decide (Dec.dval l < 0) = ng at hneg
  have HNG := Lib.hid hng
  clear hng
  go_wp2
  have HV : Hid (Dec.nval D.data.toList = (Dec.dval l).natAbs) := by show _ = _; rw [HT.out]; exact HD3.out
  have HD : Hid (Dec.digs D.data.toList = true) := by show _ = _; rw [HT.out]; exact HD1.out
  clear HT HD1 HD2 HD3
  go_loopw [3] (fun s3 wr => ∃ (E : ByteArray) (A2 : Option Addr) (k c2 : Nat) (o : List Nat), s3 = .string E ∧ E.size + k ≤ l.length + 1 ∧ Hid (Dec.digs E.data.toList = true) ∧ Hid (BlkIs wr w.heap.size 56 #[.bool false, .slice none 0 0]) ∧ Hid (BlkIs wr (w.heap.size + 1) 56 #[.bool ng, .slice A2 k c2]) ∧ Own wr w.heap.size 67 .u32 A2 k c2 o ∧ Dec.Small 1000000000 o ∧ Hid ((Dec.dval l).natAbs = Dec.lval 1000000000 o + 1000000000 ^ k * Dec.nval E.data.toList) ∧ Below w.heap.size w wr) (fun s3 _ => strLen s3)
  case atStart =>
    refine ⟨D, none, 0, 0, [], rfl, by omega, HD, ?_, ?_, Own.nil _ _ _ _, Dec.Small.nil, (by rw [HV.out]; simp [Dec.lval] : (Dec.dval l).natAbs = Dec.lval 1000000000 [] + 1000000000 ^ 0 * Dec.nval D.data.toList), ?_⟩
    · exact (BlkIs.new w _ _).alloc _
    · have := BlkIs.new (w.alloc (.cells #[.bool false, .slice none 0 0] 56)) 56 #[.bool ng, .slice none 0 0]
      exact Lib.hid (by simpa using this)
    · exact ((Below.refl _ _).alloc (Nat.le_refl _) _).alloc (by simp) _
  case round =>
    obtain ⟨E, A2, k, c2, o, rfl, hEk, HE, HB1, HB2, hown, hso, HVE, hb⟩ := hrel
    have HO := Lib.hid hown.len
    have c10 := HB2.out.cell 0
    have c11 := HB2.out.cell 1
    simp only [List.getElem?_toArray, List.getElem?_cons_zero, List.getElem?_cons_succ] at c10 c11
    have f11 := HB2.out.frozen 1
    have hlt1 := HB2.out.lt
    by_cases h0 : 0 < E.size
    · obtain ⟨m, hmax, hm1, hm2, HM3⟩ : ∃ m : Nat, max 0 ((E.size : Int) - 9) = (m : Int) ∧ m < E.size ∧ E.size ≤ m + 9 ∧ Hid (m = 0 ∨ E.size = m + 9) :=
        ⟨E.size - 9, by omega, by omega, by omega, Lib.hid (by omega)⟩
      have HC : Hid ((E.extract 0 m).data.toList ++ (E.extract m E.size).data.toList = E.data.toList) := extract_lo E m
      have hE1 : (E.extract m E.size).data.toList.length = E.size - m := by
        rw [Lib.extract_data, List.length_take, List.length_drop, ← Lib.size_eq]; omega
      have hE2 : (E.extract 0 m).data.toList.length = m := by
        rw [Lib.extract_data, List.length_take, List.length_drop, ← Lib.size_eq]; omega
      have hE3 : (E.extract 0 m).size = m := by rw [Lib.size_eq, hE2]
      have hdd : Dec.digs (E.extract 0 m).data.toList = true ∧ Dec.digs (E.extract m E.size).data.toList = true := Dec.digs_append.1 (by rw [HC.out]; exact HE.out)
      have HDD := Lib.hid hdd
      have hnv := Dec.nval_lt _ hdd.2
      rw [hE1] at hnv
      have hnv2 : Dec.nval (E.extract m E.size).data.toList < 1000000000 := Nat.lt_of_lt_of_le hnv (Nat.le_trans (Nat.pow_le_pow_right (by omega) (show E.size - m ≤ 9 by omega)) (by decide))
      have HR : Hid ((Dec.dval l).natAbs = Dec.lval 1000000000 (o ++ [Dec.nval (E.extract m E.size).data.toList]) + 1000000000 ^ (k + 1) * Dec.nval (E.extract 0 m).data.toList) := by
        have hlo := HO.out
        subst hlo
        have h := HVE.out
        rw [← HC.out] at h
        exact Dec.parse_round' (D := Lib.decDigits (Dec.dval l).natAbs) (by rw [Dec.nval_decDigits]; exact h) (by
          rcases HM3.out with e | e
          · right; exact List.eq_nil_of_length_eq_zero (by rw [hE2]; exact e)
          · left; rw [hE1, e, Nat.add_sub_cancel_left]) |> fun h => by rw [Dec.nval_decDigits] at h; exact h
      have HE1 := Lib.hid hE1
      clear hE1 hE2 hdd hnv HC
      have hpu := parseUint_any (E.extract m E.size) wr HDD.out.2 (by intro e; have := congrArg List.length e; rw [HE1.out] at this; simp at this; omega) (by rw [HE1.out]; omega)
      generalize Dec.nval (E.extract m E.size).data.toList = y at hnv2 HR hpu
      have HPU := Lib.hid hpu
      clear hpu
      go_wp2_with fail
      refine HPU.out.mono ?_
      rintro e w1 ⟨rfl, hb1⟩
      clear HPU
      have HB1' := HB1.out.below hb1
      have HB2' := HB2.out.below hb1
      have d10 := HB2'.cell 0
      have d11 := HB2'.cell 1
      simp only [List.getElem?_toArray, List.getElem?_cons_zero, List.getElem?_cons_succ] at d10 d11
      have g11 := HB2'.frozen 1
      have hlt2 := HB2'.lt
      have hown1 := hown.below hb1
      have hbw1 : Below w.heap.size w w1 := hb.trans (hb1.mono hb.size)
      have X1 := Lib.hid HB1'
      have X2 := Lib.hid HB2'
      clear HB1' HB2' HB1 HB2 c10 c11 f11 hlt1
      go_wp2_with (at_builtin; refine wpList_app (w0 := w) rfl _ _ _ rfl 67 .u32 4 Tryd.underlying54 infoU32 (by omega) _ _ _ o rfl hown1 _ y (by omega) rfl (by omega) hbw1 ?_; intro A3 c3 w2 hown2 hb2 hblk _ _; have Z1 := Lib.hid (X1.out.keep (hblk _ X1.out.lt (hown1.neBlk X1.out (by decide)))); obtain ⟨_, e11, _, h11, Z2, hlt3⟩ := X2.out.keep2 (hblk _ X2.out.lt (hown1.neBlk X2.out (by decide))); clear hblk d10 d11 g11 hlt2)
      go_roundw
      case rel =>
        refine ⟨E.extract 0 m, A3, k + 1, c3, o ++ [y], rfl, by rw [hE3]; omega, Lib.hid HDD.out.1, Lib.hid (Z1.out.far (by simp) _), ?_, hown2.farSet Z2.out (by decide) _ _, hso.append (Dec.Small.cons hnv2 Dec.Small.nil), HR, hb2.setCell (p := ⟨w.heap.size + 1, 1, none⟩) (by simp) _⟩
        have := Z2.out.set_ 1 (.slice A3 (k + 1) c3)
        exact Lib.hid (by simpa using this)
      case measure => simp only [strLen]; omega
    · go_wp2_with fail
      refine (trim_any _ _ _ _ _ hown.sl (by omega)).mono ?_
      rintro e w' ⟨rfl, rfl⟩
      have b10 := HB1.out.cell 0
      have b11 := HB1.out.cell 1
      simp only [List.getElem?_toArray, List.getElem?_cons_zero, List.getElem?_cons_succ] at b10 b11
      have g10 := HB1.out.frozen 0
      have g11 := HB1.out.frozen 1
      go_wp2
      have HW := ((HB1.out.far (p := ⟨w.heap.size + 1, 1, none⟩) (by simp) (.slice A2 (Dec.trimZ o).length c2)).set_ 0 (.bool ng)).set_ 1 (.slice A2 (Dec.trimZ o).length c2)
      have hbW : Below w.heap.size w (((wr.setCell ⟨w.heap.size + 1, 1, none⟩ (.slice A2 (Dec.trimZ o).length c2)).setCell ⟨w.heap.size, 0, none⟩ (.bool ng)).setCell ⟨w.heap.size, 1, none⟩ (.slice A2 (Dec.trimZ o).length c2)) :=
        ((hb.setCell (p := ⟨w.heap.size + 1, 1, none⟩) (by simp) _).setCell (p := ⟨w.heap.size, 0, none⟩) (Nat.le_refl _) _).setCell (p := ⟨w.heap.size, 1, none⟩) (Nat.le_refl _) _
      have hsl : Sl (((wr.setCell ⟨w.heap.size + 1, 1, none⟩ (.slice A2 (Dec.trimZ o).length c2)).setCell ⟨w.heap.size, 0, none⟩ (.bool ng)).setCell ⟨w.heap.size, 1, none⟩ (.slice A2 (Dec.trimZ o).length c2)) .u32 A2 (Dec.trimZ o).length c2 (Dec.limbs 1000000000 (Dec.dval l).natAbs) := by
        have h1 := (((hown.farSet HB2.out (by decide) 1 (.slice A2 (Dec.trimZ o).length c2)).farSet (HB1.out.far (p := ⟨w.heap.size + 1, 1, none⟩) (by simp) (.slice A2 (Dec.trimZ o).length c2)) (by decide) 0 (.bool ng)).farSet ((HB1.out.far (p := ⟨w.heap.size + 1, 1, none⟩) (by simp) (.slice A2 (Dec.trimZ o).length c2)).set_ 0 (.bool ng)) (by decide) 1 (.slice A2 (Dec.trimZ o).length c2)).sl.trimmed (B := 1000000000) (by omega) hso
        have hv : Dec.lval 1000000000 o = (Dec.dval l).natAbs := by
          rw [HVE.out, List.eq_nil_of_length_eq_zero (l := E.data.toList) (by rw [← Lib.size_eq]; omega), Dec.nval_nil]; simp
        rwa [hv] at h1
      generalize (((wr.setCell ⟨w.heap.size + 1, 1, none⟩ (.slice A2 (Dec.trimZ o).length c2)).setCell ⟨w.heap.size, 0, none⟩ (.bool ng)).setCell ⟨w.heap.size, 1, none⟩ (.slice A2 (Dec.trimZ o).length c2)) = W at *
      have q0 : W.cell? ⟨w.heap.size, 0, none⟩ = some (.bool ng) := by rw [HW.cell 0]; rfl
      have q1 : W.cell? ⟨w.heap.size, 1, none⟩ = some (.slice A2 (Dec.trimZ o).length c2) := by rw [HW.cell 1]; rfl
      refine bodyPost_ret (v := .agg #[.bool ng, .slice A2 (Dec.trimZ o).length c2]) ?_ rfl ⟨A2, _, c2, by rw [HNG.out], hsl, ?_, hbW⟩
      · simp [results, Tryd.results43, go_sem, q0, q1]
      · have := trimZ_length_le o
        rw [HO.out] at this
        omega
end Go.Proofs.YtcdgckbdplkdbaaDoor
