/- Numbers, names and tokens of the reference's reader. -/
import Derived.Test.YtendgffijciehaaGreatDoorFJ
namespace Go.Proofs.YtendgffijciehaaGreatDoor
open Go.RowKit

/- the three numbers of the text -/
theorem p_num0 : Puk 166 [stA [48]] (.tup [stA [48], stA [49], boA true]) :=
  pwalk (an := [.no, .no, .no, .no, .no, .no, .no, .no, .no, .no, .no, .no, .no, .no, .no, .no, .no]) (ls := [.run 2]) (ps := []) Tryz.func166 (by kernel_rfl) (by kernel_rfl) trivial
theorem p_num1 : Puk 166 [stA [49]] (.tup [stA [49], stA [49], boA true]) :=
  pwalk (an := [.no, .no, .no, .no, .no, .no, .no, .no, .no, .no, .no, .no, .no, .no, .no, .no, .no]) (ls := [.run 2]) (ps := []) Tryz.func166 (by kernel_rfl) (by kernel_rfl) trivial
theorem p_numM : Puk 166 [stA [45, 49]] (.tup [stA [45, 49], stA [49], boA true]) :=
  pwalk (an := [.no, .no, .no, .no, .no, .no, .no, .no, .no, .no, .no, .no, .no, .no, .no, .no, .no]) (ls := [.run 2]) (ps := []) Tryz.func166 (by kernel_rfl) (by kernel_rfl) trivial
/-- a word that begins neither with a digit nor with a minus -/
theorem p_numN {w : List UInt8} {c : UInt8} (hc : w[0]? = some c) (h45 : (c == 45) = false) (hd : Rdr.dig c = false) (hl : w.length ≤ 6000) : Puk 166 [stA w] (.tup [stA [], stA [], boA false]) := by
  have hlt := (List.getElem?_eq_some_iff.1 hc).1
  have hix : IxS ⟨w.toArray⟩ 0 (.int .u8 (c.toNat : Int)) := ix_s hc
  unfold Rdr.dig at hd
  cases h1 : decide (48 ≤ c.toNat) with
  | false => exact pwalk (an := [.av (inA w.length), yT, .av (u8A c), yF, .av (inA w.length), yT, .av (u8A c), yF, .no]) (ls := [.run 1]) (ps := [(vi ↑w.length) = (vi (↑w.length)), Bn .gtr 3 (.tmp 9) (.const (vi 0)) (vi ↑w.length) (vi 0) bT, IxS ({ data := w.toArray : ByteArray }) 0 (Value.int .u8 ↑c.toNat), Bn .eql 5 (.tmp 13) (.const (Value.int .u8 45)) (Value.int .u8 ↑c.toNat) (Value.int .u8 45) bF, (vi ↑w.length) = (vi (↑w.length)), Bn .lss 3 (.tmp 17) (.tmp 19) (vi 0) (vi ↑w.length) bT, IxS ({ data := w.toArray : ByteArray }) 0 (Value.int .u8 ↑c.toNat), Bn .geq 5 (.tmp 24) (.const (Value.int .u8 48)) (Value.int .u8 ↑c.toNat) (Value.int .u8 48) bF]) Tryz.func166 (by kernel_rfl) (by kernel_rfl) ⟨lenS _, bin_igt (decide_eq_true (by omega)), hix, bin_ieq (u8n rfl h45), lenS _, bin_ilt (decide_eq_true (by omega)), hix, bin_ige (by rw [← h1, decide_eq_decide]; omega), trivial⟩
  | true =>
    rw [h1, Bool.true_and] at hd
    exact pwalk (an := [.av (inA w.length), yT, .av (u8A c), yF, .av (inA w.length), yT, .av (u8A c), yT, .av (u8A c), yF, .no]) (ls := [.run 1]) (ps := [(vi ↑w.length) = (vi (↑w.length)), Bn .gtr 3 (.tmp 9) (.const (vi 0)) (vi ↑w.length) (vi 0) bT, IxS ({ data := w.toArray : ByteArray }) 0 (Value.int .u8 ↑c.toNat), Bn .eql 5 (.tmp 13) (.const (Value.int .u8 45)) (Value.int .u8 ↑c.toNat) (Value.int .u8 45) bF, (vi ↑w.length) = (vi (↑w.length)), Bn .lss 3 (.tmp 17) (.tmp 19) (vi 0) (vi ↑w.length) bT, IxS ({ data := w.toArray : ByteArray }) 0 (Value.int .u8 ↑c.toNat), Bn .geq 5 (.tmp 24) (.const (Value.int .u8 48)) (Value.int .u8 ↑c.toNat) (Value.int .u8 48) bT, IxS ({ data := w.toArray : ByteArray }) 0 (Value.int .u8 ↑c.toNat), Bn .leq 5 (.tmp 30) (.const (Value.int .u8 57)) (Value.int .u8 ↑c.toNat) (Value.int .u8 57) bF]) Tryz.func166 (by kernel_rfl) (by kernel_rfl) ⟨lenS _, bin_igt (decide_eq_true (by omega)), hix, bin_ieq (u8n rfl h45), lenS _, bin_ilt (decide_eq_true (by omega)), hix, bin_ige (by rw [← h1, decide_eq_decide]; omega), hix, bin_ile (by rw [← hd, decide_eq_decide]; omega), trivial⟩
theorem p_plain0 : Puk 167 [stA [48]] (stA [48]) := pwalk (an := [.no, .no, .no, .no, .no, .no, .no, .no, .no, .no, .no, .no, .no]) (ls := [.run 2]) (ps := []) Tryz.func167 (by kernel_rfl) (by kernel_rfl) trivial
theorem p_plain1 : Puk 167 [stA [49]] (stA [49]) := pwalk (an := [.no, .no, .no, .no, .no, .no, .no, .no, .no, .no, .no, .no, .no]) (ls := [.run 2]) (ps := []) Tryz.func167 (by kernel_rfl) (by kernel_rfl) trivial
theorem p_plainM : Puk 167 [stA [45, 49]] (stA [45, 49]) := pwalk (an := [.no, .no, .no, .no, .no, .no, .no, .no, .no, .no, .av (stA [49]), .av (stA [45, 49])]) (ls := [.run 2]) (ps := [ SlcS ⟨#[45, 49]⟩ (1 : Int) (2 : Int) (str [49]), Bn .add 9 (.const (str [45])) (.tmp 33) (str [45]) (str [49]) (str [45, 49])]) Tryz.func167 (by kernel_rfl) (by kernel_rfl) ⟨⟨by decide, by decide, by decide, by rw [Lib.extract_eq]; rfl⟩, bin_strs (a := [45]) (b := [49]) (by decide), trivial⟩
abbrev tokA (t : Rdr.Tok) : AV := .agg [inA t.kind, inA t.pos, stA [], stA t.text, stA t.den]
abbrev tokC (t : Rdr.Tok) : List Dt := [.val (.int .i64 t.kind), .val (.int .i64 (t.pos : Int)), .val (str []), .val (str t.text), .val (str t.den)]
abbrev seA : AV := .agg [inA 0, inA 0]
theorem p_named {k : Int} {i : Nat} {w : List UInt8} (h : w.length ≤ 40) : Puk 162 [.agg [inA k, inA i, stA [], stA w, stA []], boA false] seA :=
  pwalk (an := [.av (inA w.length), yF, yF]) (ls := []) (ps := [(vi ↑w.length) = (vi (↑w.length)), Bn .gtr 3 (.tmp 8) (.const (vi 40)) (vi ↑w.length) (vi 40) bF, Bn .neq 9 (.tmp 22) (.const (Value.string { data := #[] : ByteArray })) (str []) (str []) bF]) Tryz.func162 (by kernel_rfl) (by kernel_rfl) ⟨lenS _, bin_igt (decide_eq_false (by omega)), bin_sne rfl, trivial⟩
/- a token -/
theorem p_oneO {s : List UInt8} {i : Nat} (hc : s[i]? = some 40) (hl : s.length ≤ 6000) : Puk 137 [stA s, inA i] (.tup [tokA ⟨1, i, [], []⟩, inA ((i + 1 : Nat) : Int), seA]) :=
  pwalk (an := [.av (.dt (.val (.int .u8 40))), yT, .av (inA ((i + 1 : Nat) : Int))]) (ls := []) (ps := [IxS ({ data := s.toArray : ByteArray }) ↑i (Value.int .u8 40), Bn .eql 5 (.tmp 21) (.const (Value.int .u8 40)) (Value.int .u8 40) (Value.int .u8 40) bT, Bn .add 3 (.tmp 25) (.const (vi 1)) (vi ↑i) (vi 1) (vi (↑(i + 1)))]) Tryz.func137 (by kernel_rfl) (by kernel_rfl) ⟨ix_s (c := 40) hc, bin_ieq rfl, bin_iadd (by omega) (by omega) (by have := (List.getElem?_eq_some_iff.1 hc).1; omega), trivial⟩
theorem p_oneC {s : List UInt8} {i : Nat} (hc : s[i]? = some 41) (hl : s.length ≤ 6000) : Puk 137 [stA s, inA i] (.tup [tokA ⟨2, i, [], []⟩, inA ((i + 1 : Nat) : Int), seA]) :=
  pwalk (an := [.av (.dt (.val (.int .u8 41))), yF, yT, .av (inA ((i + 1 : Nat) : Int))]) (ls := []) (ps := [IxS ({ data := s.toArray : ByteArray }) ↑i (Value.int .u8 41), Bn .eql 5 (.tmp 21) (.const (Value.int .u8 40)) (Value.int .u8 41) (Value.int .u8 40) bF, Bn .eql 5 (.tmp 29) (.const (Value.int .u8 41)) (Value.int .u8 41) (Value.int .u8 41) bT, Bn .add 3 (.tmp 33) (.const (vi 1)) (vi ↑i) (vi 1) (vi (↑(i + 1)))]) Tryz.func137 (by kernel_rfl) (by kernel_rfl) ⟨ix_s (c := 41) hc, bin_ieq rfl, bin_ieq rfl, bin_iadd (by omega) (by omega) (by have := (List.getElem?_eq_some_iff.1 hc).1; omega), trivial⟩
theorem p_red {a b x y : List UInt8} (ha : a.length ≤ 1000) (hb : b.length ≤ 1000) (hx : Lib.itoa (rdN (Dec.dval a) (Dec.dval b)) = x) (hy : Lib.itoa (rdD (Dec.dval a) (Dec.dval b)) = y) : Puk 90 [stA a, stA b] (.tup [stA x, stA y]) :=
  ⟨fnm Tryz.func90 rfl (by kernel_rfl), fun ok w vs _ hv => by
    obtain ⟨u, us, rfl, h1, h2⟩ := hv
    obtain rfl := RL.one_val h2
    rw [Rd.val_eq h1]
    refine (refReduce_any a b w (by omega) (by omega)).mono ?_
    rintro e w' ⟨rfl, h⟩
    rw [hx, hy]
    exact ⟨_, rfl, h, _, rfl, _, _, rfl, .val _, _, _, rfl, .val _, rfl⟩⟩
theorem p_digN {l : List UInt8} {k : Nat} (hl : l.length ≤ 1000) (hk : (Dec.mag (norm l)).length = k) : Puk 168 [stA l] (inA (k : Int)) :=
  ⟨fnm Tryz.func168 rfl (by kernel_rfl), fun ok w vs _ hv => by
    obtain rfl := RL.one_val hv
    refine (refDigitsN_any l w (by omega)).mono ?_
    rintro e w' ⟨rfl, h⟩
    rw [hk]
    exact ⟨_, rfl, h, .val _⟩⟩
theorem ne_u8 {c k : UInt8} (h : (c == k) = false) : decide ((c.toNat : Int) = (k.toNat : Int)) = false := u8n rfl h
theorem cst_ne {c : UInt8} (h : Rdr.cst c = true) : (c == 40) = false ∧ (c == 41) = false ∧ (c == 39) = false ∧ (c == 34) = false ∧ (c == 124) = false := by
  unfold Rdr.cst at h
  simp only [Bool.and_eq_true, decide_eq_true_eq, Bool.not_eq_true'] at h
  obtain ⟨⟨⟨⟨⟨⟨⟨⟨_, _⟩, h3⟩, h4⟩, h5⟩, h6⟩, _⟩, h8⟩, _⟩ := h
  exact ⟨h3, h4, h5, h6, h8⟩
theorem slc_w {s w : List UInt8} {i e : Nat} (hw : (s.drop i).takeWhile Rdr.cst = w) (he : i + w.length = e) (hl : e ≤ s.length) : SlcS ⟨s.toArray⟩ (i : Int) (e : Int) (str w) := by
  have hp : (s.drop i).takeWhile Rdr.cst <+: s.drop i := List.takeWhile_prefix _
  rw [hw] at hp
  have e2 : w = (s.drop i).take w.length := (List.prefix_iff_eq_take.1 hp)
  refine ⟨by omega, by omega, ?_, ?_⟩
  · show (e : Int) ≤ ((s.toArray.size : Nat) : Int)
    simpa using hl
  · rw [Lib.extract_eq, Int.toNat_natCast, Int.toNat_natCast]
    congr 3
    rw [e2, ← he, Nat.add_sub_cancel_left]
/-- the slice of a word -/
theorem p_oneW {s w : List UInt8} {i e : Nat} {c : UInt8} (hc : s[i]? = some c) (hl : s.length ≤ 6000) (hcst : Rdr.cst c = true) (hw : (s.drop i).takeWhile Rdr.cst = w) (he : i + w.length = e) (h58 : ∀ c ∈ s, (c == 58) = false) (hn : Puk 166 [stA w] (.tup [stA [], stA [], boA false])) (h46 : w ≠ [46]) (h40 : w.length ≤ 40) : Puk 137 [stA s, inA i] (.tup [tokA ⟨6, i, w, []⟩, inA e, seA]) := by
  obtain ⟨n1, n2, n3, n4, n5⟩ := cst_ne hcst
  have hi := (List.getElem?_eq_some_iff.1 hc).1
  have hwd := p_word hl (i := i) (by omega)
  rw [hw, he] at hwd
  have hlw : e ≤ s.length := by
    have := Rdr.len_take_drop Rdr.cst (s.drop i)
    rw [hw, List.length_drop] at this
    omega
  exact pwalk (an := [.av (u8A c), yF, yF, yF, yF, yF, yT, .av (inA e), .av (stA w), yF, .av (.tup [stA [], stA [], boA false]), yF, .av (seA)]) (ls := []) (ps := [IxS ({ data := s.toArray : ByteArray }) ↑i (Value.int .u8 ↑c.toNat), Bn .eql 5 (.tmp 21) (.const (Value.int .u8 40)) (Value.int .u8 ↑c.toNat) (Value.int .u8 40) bF, Bn .eql 5 (.tmp 29) (.const (Value.int .u8 41)) (Value.int .u8 ↑c.toNat) (Value.int .u8 41) bF, Bn .eql 5 (.tmp 37) (.const (Value.int .u8 39)) (Value.int .u8 ↑c.toNat) (Value.int .u8 39) bF, Bn .eql 5 (.tmp 45) (.const (Value.int .u8 34)) (Value.int .u8 ↑c.toNat) (Value.int .u8 34) bF, Bn .eql 5 (.tmp 73) (.const (Value.int .u8 124)) (Value.int .u8 ↑c.toNat) (Value.int .u8 124) bF, Puk 163 [(.dt (.val (Value.int .u8 ↑c.toNat)))] (boA true), Puk 164 [(stA s), (inA ↑i)] (inA ↑e), SlcS ({ data := s.toArray : ByteArray }) ((some ↑i).getD 0) ((some ↑e).getD ↑{ data := s.toArray : ByteArray }.size) (str w), Puk 160 [(stA s), (inA ↑e), (.dt (.val (Value.int .u8 58))), (.dt (.val (Value.int .u8 58)))] (boA false), Puk 166 [(stA w)] (.tup [(stA []), (stA []), (boA false)]), Bn .eql 9 (.tmp 131) (.const (Value.string { data := #[46] : ByteArray })) (str w) (str [46]) bF, Puk 162 [(.agg [(inA 6), (inA ↑i), (stA []), (stA w), (stA [])]), (boA false)] (.agg [(inA 0), (inA 0)])]) Tryz.func137 (by kernel_rfl) (by kernel_rfl) ⟨ix_s hc, bin_ieq (ne_u8 n1), bin_ieq (ne_u8 n2), bin_ieq (ne_u8 n3), bin_ieq (ne_u8 n4), bin_ieq (ne_u8 n5), hcst ▸ p_cst c, hwd, slc_w hw he hlw, p_hasF (a := 58) (b := 58) hl (by omega) h58, hn, bin_seq (decide_eq_false h46), p_named h40, trivial⟩
theorem p_oneN {s w : List UInt8} {i e : Nat} {c : UInt8} (hc : s[i]? = some c) (hl : s.length ≤ 6000) (hcst : Rdr.cst c = true) (hw : (s.drop i).takeWhile Rdr.cst = w) (he : i + w.length = e) (h58 : ∀ c ∈ s, (c == 58) = false) (hn : Puk 166 [stA w] (.tup [stA w, stA [49], boA true])) (hp : Puk 167 [stA w] (stA w)) (hr : Puk 90 [stA w, stA [49]] (.tup [stA w, stA [49]])) (hd : Puk 168 [stA w] (inA 1)) (hd1 : Puk 168 [stA [49]] (inA 1)) (h46 : w ≠ [46]) : Puk 137 [stA s, inA i] (.tup [tokA ⟨5, i, w, [49]⟩, inA e, seA]) := by
  obtain ⟨n1, n2, n3, n4, n5⟩ := cst_ne hcst
  have hi := (List.getElem?_eq_some_iff.1 hc).1
  have hwd := p_word hl (i := i) (by omega)
  rw [hw, he] at hwd
  have hlw : e ≤ s.length := by
    have := Rdr.len_take_drop Rdr.cst (s.drop i)
    rw [hw, List.length_drop] at this
    omega
  exact pwalk (an := [.av (u8A c), yF, yF, yF, yF, yF, yT, .av (inA e), .av (stA w), yF, .av (.tup [stA w, stA [49], boA true]), yF, .av (stA [49]), yF, .av (stA w), .av (stA [49]), .av (.tup [stA w, stA [49]]), .av (inA 1), yF, .av (inA 1), yF]) (ls := []) (ps := [IxS ({ data := s.toArray : ByteArray }) ↑i (Value.int .u8 ↑c.toNat), Bn .eql 5 (.tmp 21) (.const (Value.int .u8 40)) (Value.int .u8 ↑c.toNat) (Value.int .u8 40) bF, Bn .eql 5 (.tmp 29) (.const (Value.int .u8 41)) (Value.int .u8 ↑c.toNat) (Value.int .u8 41) bF, Bn .eql 5 (.tmp 37) (.const (Value.int .u8 39)) (Value.int .u8 ↑c.toNat) (Value.int .u8 39) bF, Bn .eql 5 (.tmp 45) (.const (Value.int .u8 34)) (Value.int .u8 ↑c.toNat) (Value.int .u8 34) bF, Bn .eql 5 (.tmp 73) (.const (Value.int .u8 124)) (Value.int .u8 ↑c.toNat) (Value.int .u8 124) bF, Puk 163 [(.dt (.val (Value.int .u8 ↑c.toNat)))] (boA true), Puk 164 [(stA s), (inA ↑i)] (inA ↑e), SlcS ({ data := s.toArray : ByteArray }) ((some ↑i).getD 0) ((some ↑e).getD ↑{ data := s.toArray : ByteArray }.size) (str w), Puk 160 [(stA s), (inA ↑e), (.dt (.val (Value.int .u8 58))), (.dt (.val (Value.int .u8 58)))] (boA false), Puk 166 [(stA w)] (.tup [(stA w), (stA [49]), (boA true)]), Bn .eql 9 (.tmp 131) (.const (Value.string { data := #[46] : ByteArray })) (str w) (str [46]) bF, Puk 167 [(stA [49])] (stA [49]), Bn .eql 9 (.tmp 137) (.const (Value.string { data := #[48] : ByteArray })) (str [49]) (str [48]) bF, Puk 167 [(stA w)] (stA w), Puk 167 [(stA [49])] (stA [49]), Puk 90 [(stA w), (stA [49])] (.tup [(stA w), (stA [49])]), Puk 168 [(stA w)] (inA 1), Bn .gtr 3 (.tmp 156) (.const (vi 100)) (vi 1) (vi 100) bF, Puk 168 [(stA [49])] (inA 1), Bn .gtr 3 (.tmp 161) (.const (vi 100)) (vi 1) (vi 100) bF]) Tryz.func137 (by kernel_rfl) (by kernel_rfl) ⟨ix_s hc, bin_ieq (ne_u8 n1), bin_ieq (ne_u8 n2), bin_ieq (ne_u8 n3), bin_ieq (ne_u8 n4), bin_ieq (ne_u8 n5), hcst ▸ p_cst c, hwd, slc_w hw he hlw, p_hasF (a := 58) (b := 58) hl (by omega) h58, hn, bin_seq (decide_eq_false h46), p_plain1, bin_seq (by decide), hp, p_plain1, hr, hd, bin_igt (by decide), hd1, bin_igt (by decide), trivial⟩
end Go.Proofs.YtendgffijciehaaGreatDoor
/- The tokens of a text, of the reference's reader. -/
namespace Go.Proofs.YtendgffijciehaaGreatDoor
open Go.RowKit

/-- the letters of a text that the walks of the reader cover -/
structure Txt (s : List UInt8) : Prop where
  len : s.length ≤ 6000
  few : ∀ c ∈ s, Rdr.few c = true
theorem few_ne {c : UInt8} (h : Rdr.few c = true) : (c == 59) = false ∧ (c == 35) = false ∧ (c == 58) = false := by
  have ne : ∀ k : UInt8, Rdr.few k = false → (c == k) = false := fun k hk => by
    rw [beq_eq_false_iff_ne]
    intro e
    rw [e, hk] at h
    cases h
  exact ⟨ne 59 (by decide), ne 35 (by decide), ne 58 (by decide)⟩
theorem few_cst {c : UInt8} (h : Rdr.few c = true) (hb : Rdr.blk c = false) (h40 : c ≠ 40) (h41 : c ≠ 41) : Rdr.cst c = true := by
  unfold Rdr.few at h
  rw [hb, beq_eq_false_iff_ne.2 h40, beq_eq_false_iff_ne.2 h41] at h
  simp only [Bool.false_or, Bool.and_eq_true] at h
  exact h.1.1.1
theorem p_oneWord {s : List UInt8} (hs : Txt s) {i : Nat} {c : UInt8} (hc : s[i]? = some c) (hcst : Rdr.cst c = true) (hok : Rdr.wOK ((s.drop i).takeWhile Rdr.cst) = true) : Puk 137 [stA s, inA i] (.tup [tokA (Rdr.wTok i ((s.drop i).takeWhile Rdr.cst)), inA ((i + ((s.drop i).takeWhile Rdr.cst).length : Nat) : Int), seA]) := by
  have h58 : ∀ c ∈ s, (c == 58) = false := fun c hc => (few_ne (hs.few c hc)).2.2
  generalize hw : (s.drop i).takeWhile Rdr.cst = w at *
  unfold Rdr.wOK at hok
  unfold Rdr.wTok
  cases hn : Rdr.isNum w with
  | true =>
    rw [if_pos rfl]
    rw [hn, if_pos rfl] at hok
    simp only [Bool.or_eq_true, beq_iff_eq] at hok
    have d1 : Puk 168 [stA [49]] (inA 1) := p_digN (k := 1) (by decide) (by decide +kernel)
    rcases hok with (rfl | rfl) | rfl
    · exact p_oneN hc hs.len hcst hw rfl h58 p_num0 p_plain0 (p_red (by decide) (by decide) (by decide +kernel) (by decide +kernel)) (p_digN (k := 1) (by decide) (by decide +kernel)) d1 (by decide)
    · exact p_oneN hc hs.len hcst hw rfl h58 p_num1 p_plain1 (p_red (by decide) (by decide) (by decide +kernel) (by decide +kernel)) (p_digN (k := 1) (by decide) (by decide +kernel)) d1 (by decide)
    · exact p_oneN hc hs.len hcst hw rfl h58 p_numM p_plainM (p_red (by decide) (by decide) (by decide +kernel) (by decide +kernel)) (p_digN (k := 1) (by decide) (by decide +kernel)) d1 (by decide)
  | false =>
    rw [if_neg (by decide)]
    rw [hn, if_neg (by decide)] at hok
    simp only [Bool.and_eq_true, decide_eq_true_eq, Bool.not_eq_true', beq_eq_false_iff_ne] at hok
    obtain ⟨⟨h40, hh⟩, h46⟩ := hok
    cases w with
    | nil => cases hh
    | cons d r =>
      simp only [Bool.and_eq_true, Bool.not_eq_true'] at hh
      exact p_oneW hc hs.len hcst hw rfl h58 (p_numN (c := d) rfl hh.1 hh.2 (by omega)) h46 h40
abbrev toksA (l : List Rdr.Tok) : AV := .dt (.row (l.map tokC))
abbrev tkS (s : List UInt8) (es : List (List Dt)) (i : Int) : AS := ⟨stt 53 [(0, stA s), (3, .ptr 0 0), (4, .own 1 es.length), (5, inA i)], [some (.cells [inA 0, inA 0]), some (.buf 161 5 es)]⟩
abbrev tkR (es : List (List Dt)) : AS := ⟨stt 53 [(2, .own 1 es.length), (3, .ptr 0 0)], [some (.cells [inA 0, inA 0]), some (.buf 161 5 es)]⟩
noncomputable abbrev tkB : Code := subC (bodyOf Tryz.f115) [1,1,1,1,0,0]
theorem src_tok (t : Rdr.Tok) : SrcOK 5 [tokC t] := by
  intro x hx
  rw [List.mem_singleton] at hx
  subst hx
  refine ⟨rfl, fun d hd => ?_⟩
  simp only [List.mem_cons, List.not_mem_nil, or_false] at hd
  rcases hd with rfl | rfl | rfl | rfl | rfl <;> rfl
theorem tkB1 {s : List UInt8} {es : List (List Dt)} {i n e : Nat} {t : Rdr.Tok} (h1 : Puk 136 [stA s, inA i] (.tup [inA n, boA true])) (hn : n < s.length) (h2 : Puk 137 [stA s, inA n] (.tup [tokA t, inA e, seA])) (he : es.length ≤ 10000) : Tri EX tkB (tkS s es i) .nxt (tkS s (es ++ [tokC t]) e) :=
  twalk (c := subC (bodyOf Tryz.f115) [1,1,1,1,0,0]) (s := tkS s es i) (an := [.av (.tup [inA n, boA true]), .av (inA s.length), yF, .av (.tup [tokA t, inA e, seA]), .no, .av (.un)]) (ls := []) (ft := [0,3,4,5]) (nb := 2) (e := .nxt) (s' := tkS s (es ++ [tokC t]) e) (ps := [Puk 136 [(stA s), (inA ↑i)] (.tup [(inA ↑n), (boA true)]), (vi ↑s.length) = (vi (↑s.length)), Bn .geq 3 (.tmp 26) (.tmp 28) (vi ↑n) (vi ↑s.length) bF, Puk 137 [(stA s), (inA ↑n)] (.tup [(.agg [(inA t.kind), (inA ↑t.pos), (stA []), (stA t.text), (stA t.den)]), (inA ↑e), (.agg [(inA 0), (inA 0)])]), (es.length) = (es.length), FitB 64 ((es ++ [[Dt.val (vi t.kind), Dt.val (vi ↑t.pos), Dt.val (str []), Dt.val (str t.text), Dt.val (str t.den)]]).length), SrcOK 5 [[(.val (vi t.kind)), (.val (vi ↑t.pos)), (.val (str [])), (.val (str t.text)), (.val (str t.den))]]]) (by kernel_rfl)
    ⟨h1, lenS _, bin_ige (decide_eq_false (by omega)), h2, rfl, fit_of (by omega) (by simp; omega), src_tok t, trivial⟩
theorem tkB2 {s : List UInt8} {es : List (List Dt)} {i n : Nat} (h1 : Puk 136 [stA s, inA i] (.tup [inA n, boA true])) (hn : s.length ≤ n) (he : es.length ≤ 10000) : Tri EX tkB (tkS s es i) .ret (tkR (es ++ [tokC ⟨0, s.length, [], []⟩])) :=
  twalk (c := subC (bodyOf Tryz.f115) [1,1,1,1,0,0]) (s := tkS s es i) (an := [.av (.tup [inA n, boA true]), .av (inA s.length), yT, .av (inA s.length), .av (.un)]) (ls := []) (ft := [2,3]) (nb := 2) (e := .ret) (s' := tkR (es ++ [tokC ⟨0, s.length, [], []⟩])) (ps := [Puk 136 [(stA s), (inA ↑i)] (.tup [(inA ↑n), (boA true)]), (vi ↑s.length) = (vi (↑s.length)), Bn .geq 3 (.tmp 26) (.tmp 28) (vi ↑n) (vi ↑s.length) bT, (vi ↑s.length) = (vi (↑s.length)), (es.length) = (es.length), FitB 64 ((es ++ [[Dt.val (vi 0), Dt.val (vi ↑s.length), Dt.val (Value.string { data := #[] : ByteArray }), Dt.val (Value.string { data := #[] : ByteArray }), Dt.val (Value.string { data := #[] : ByteArray })]]).length), SrcOK 5 [[(.val (vi 0)), (.val (vi ↑s.length)), (.val (str [])), (.val (str [])), (.val (str []))]]]) (by kernel_rfl)
    ⟨h1, lenS _, bin_ige (decide_eq_true (by omega)), lenS _, rfl, fit_of (by omega) (by simp; omega), src_tok ⟨0, s.length, [], []⟩, trivial⟩
theorem tk_loop {s : List UInt8} (hs : Txt s) : ∀ (N : Nat) (r : List UInt8) (i : Nat) (es : List (List Dt)), r.length ≤ N → s.drop i = r → i ≤ s.length → (∀ t ∈ Rdr.tk i r, t.kind = 5 ∨ t.kind = 6 → Rdr.wOK t.text = true) → es.length + r.length ≤ 9000 → Lps EX tkB (tkS s es i) .ret (tkR (es ++ (Rdr.tk i r).map tokC)) := by
  intro N
  induction N with
  | zero =>
    intro r i es hN hd hi hok hl
    obtain rfl : r = [] := List.eq_nil_of_length_eq_zero (by omega)
    have e1 := congrArg List.length hd
    rw [List.length_drop, List.length_nil] at e1
    have h1 := p_skip hs.len (fun c hc => (few_ne (hs.few c hc)).1) (fun c hc => (few_ne (hs.few c hc)).2.1) hi
    rw [hd] at h1
    rw [Rdr.tk_nil, show i = s.length by omega]
    rw [show i = s.length by omega] at h1
    exact .stop (tkB2 h1 (Nat.le_refl _) (by omega)) (fun h => by cases h)
  | succ N ih =>
    intro r i es hN hd hi hok hl
    have h1 := p_skip hs.len (fun c hc => (few_ne (hs.few c hc)).1) (fun c hc => (few_ne (hs.few c hc)).2.1) hi
    rw [hd] at h1
    rw [Rdr.tk_skip] at hok ⊢
    have hlen := Rdr.len_take_drop Rdr.blk r
    have hrl : r.length = s.length - i := by rw [← hd, List.length_drop]
    generalize hn : (r.takeWhile Rdr.blk).length = n at *
    have hd2 : s.drop (i + n) = r.drop n := by rw [← List.drop_drop, hd]
    have hb0 : ∀ c r2, r.drop n = c :: r2 → Rdr.blk c = false := fun c r2 e => by
      rw [← hn, Rdr.drop_tw] at e
      have := List.head?_dropWhile_not Rdr.blk r
      rw [e] at this
      simpa using this
    cases hr : r.drop n with
    | nil =>
      have e1 := congrArg List.length hr
      rw [List.length_drop, List.length_nil] at e1
      have e2 : i + n = s.length := by omega
      rw [Rdr.tk_nil, e2]
      rw [e2] at h1
      exact .stop (tkB2 h1 (Nat.le_refl _) (by omega)) (fun h => by cases h)
    | cons c r2 =>
      have hrn : (r.drop n).length = r2.length + 1 := by rw [hr, List.length_cons]
      rw [List.length_drop] at hrn
      have hcs : s[i + n]? = some c := by rw [← List.head?_drop, hd2, hr]; rfl
      have hlt := (List.getElem?_eq_some_iff.1 hcs).1
      have hfc := hs.few c (List.mem_of_getElem? hcs)
      have hnb := hb0 c r2 hr
      have hd3 : s.drop (i + n + 1) = r2 := by rw [← List.drop_drop, hd2, hr]; rfl
      rw [hr] at hok
      by_cases h40 : c = 40
      · subst h40
        rw [Rdr.tk_open] at hok ⊢
        have := ih r2 (i + n + 1) (es ++ [tokC ⟨1, i + n, [], []⟩]) (by omega) hd3 (by omega) (fun t ht => hok t (List.mem_cons_of_mem _ ht)) (by rw [List.length_append, List.length_singleton]; omega)
        rw [List.append_assoc] at this
        exact .more (tkB1 h1 hlt (p_oneO hcs hs.len) (by omega)) this
      by_cases h41 : c = 41
      · subst h41
        rw [Rdr.tk_close] at hok ⊢
        have := ih r2 (i + n + 1) (es ++ [tokC ⟨2, i + n, [], []⟩]) (by omega) hd3 (by omega) (fun t ht => hok t (List.mem_cons_of_mem _ ht)) (by rw [List.length_append, List.length_singleton]; omega)
        rw [List.append_assoc] at this
        exact .more (tkB1 h1 hlt (p_oneC hcs hs.len) (by omega)) this
      have hcst := few_cst hfc hnb h40 h41
      rw [Rdr.tk_word hcst] at hok ⊢
      have hw : (s.drop (i + n)).takeWhile Rdr.cst = (c :: r2).takeWhile Rdr.cst := by rw [hd2, hr]
      have hpos : 1 ≤ ((c :: r2).takeWhile Rdr.cst).length := by rw [List.takeWhile_cons, if_pos hcst, List.length_cons]; omega
      have hwl := Rdr.len_take_drop Rdr.cst (c :: r2)
      rw [List.length_cons] at hwl
      have hk := hok _ (List.mem_cons_self ..)
      have hwok : Rdr.wOK ((c :: r2).takeWhile Rdr.cst) = true := by
        unfold Rdr.wTok at hk
        split at hk
        · exact hk (.inl rfl)
        · exact hk (.inr rfl)
      have h2 := p_oneWord hs hcs hcst (by rw [hw]; exact hwok)
      rw [hw] at h2
      have := ih ((c :: r2).drop ((c :: r2).takeWhile Rdr.cst).length) (i + n + ((c :: r2).takeWhile Rdr.cst).length) (es ++ [tokC (Rdr.wTok (i + n) ((c :: r2).takeWhile Rdr.cst))]) (by rw [List.length_drop, List.length_cons]; omega) (by rw [← List.drop_drop, hd2, hr]) (by omega) (fun t ht => hok t (List.mem_cons_of_mem _ ht)) (by rw [List.length_append, List.length_singleton, List.length_drop, List.length_cons]; omega)
      rw [List.append_assoc] at this
      exact .more (tkB1 h1 hlt h2 (by omega)) this
/-- the tokens of a text -/
theorem p_Tokens {s : List UInt8} (hs : Txt s) (hok : ∀ t ∈ Rdr.tk 0 s, t.kind = 5 ∨ t.kind = 6 → Rdr.wOK t.text = true) : Puk 115 [stA s] (.tup [toksA (Rdr.tk 0 s), seA]) := by
  have hl := hs.len
  have h := (tk_loop hs s.length s 0 [] (Nat.le_refl _) rfl (Nat.zero_le _) hok (by rw [List.length_nil]; omega)).tri
  have ht : Tri EX (.loop tkB) ⟨stt 53 [(0, stA s), (3, .ptr 0 0), (4, .nil), (5, inA 0)], [some (.cells [inA 0, inA 0])]⟩ .ret (tkR ((Rdr.tk 0 s).map tokC)) := Tri.own0 4 161 5 (by show 4 < 53; omega) rfl h
  generalize (Rdr.tk 0 s).map tokC = es at *
  exact pwalk (an := [.av (inA s.length), yF]) (ls := [.inv [0,3,4,5] 1 (.ret) (tkR es)]) (ps := [(vi ↑s.length) = (vi (↑s.length)), Bn .gtr 3 (.tmp 12) (.const (vi 6000)) (vi ↑s.length) (vi 6000) bF, Tri EX (.loop (subC (bodyOf Tryz.f115) [1,1,1,1,0,0])) (⟨stt 53 [(0, stA s), (3, .ptr 0 0), (4, .nil), (5, inA 0)], [some (.cells [inA 0, inA 0])]⟩) (.ret) (tkR es), (es.length) = (es.length)]) Tryz.func115 (by kernel_rfl) (by kernel_rfl) ⟨lenS _, bin_igt (decide_eq_false (by omega)), ht, rfl, trivial⟩
end Go.Proofs.YtendgffijciehaaGreatDoor
/- Symbols and lists of the reference's parser. -/
namespace Go.Proofs.YtendgffijciehaaGreatDoor
open Go.RowKit

/-- a result that is known better -/
theorem SOK.cast {P : Program} {G : World → Prop} {f : FuncId} {args : List AV} {xs xs' : List (Option Bx)} {r r' : AV} (h : SOK P G f args xs r xs') (hr : ∀ (M : Mm) (w : World) (v : Value), RV M w r v → RV M w r' v) : SOK P G f args xs r' xs' :=
  ⟨h.1, fun X M w vs hG hS ha => (h.2 X M w vs hG hS ha).mono fun _ _ ⟨v, M', h1, h2, h3, h4, h5⟩ => ⟨v, M', h1, h2, h3, h4, hr _ _ _ h5⟩⟩
theorem RV.nilRow {M : Mm} {w : World} {v : Value} (h : RV M w .nil v) : RV M w (.dt (.row [])) v := by
  have e : v = .slice none 0 0 := h
  rw [e]
  exact .nil _ _
abbrev pkg1 : List (List Dt) := [[.val (str lispB), .row []]]
theorem p_Initial : Puk 96 [] (.dt (.row pkg1)) := pwalk (an := []) (ls := []) (ps := []) Tryz.func96 (by kernel_rfl) (by kernel_rfl) trivial
theorem p_Find1 : Puk 169 [.dt (.row pkg1), stA lispB] (.tup [.agg [stA lispB, .dt (.row [])], boA true]) :=
  pwalk (an := [.no, .no, .no, .no]) (ls := [.run 1]) (ps := []) Tryz.func169 (by kernel_rfl) (by kernel_rfl) trivial
theorem p_Intern1 {w : List UInt8} (h0 : 1 ≤ w.length) (h1 : w.length ≤ 40) : Puk 138 [.dt (.row pkg1), stA lispB, stA w] (.tup [syA lispB w, inA 0]) :=
  pwalk (an := [.av (.tup [.agg [stA lispB, .dt (.row [])], boA true]), .av (inA w.length), yF, .av (inA w.length), yF, .no, .no]) (ls := [.run 1]) (ps := [Puk 169 [(.dt (.row [[(.val (str lispB)), (.row [])]])), (stA lispB)] (.tup [(.agg [(stA lispB), (.dt (.row []))]), (boA true)]), (vi ↑w.length) = (vi (↑w.length)), Bn .lss 3 (.tmp 21) (.const (vi 1)) (vi ↑w.length) (vi 1) bF, (vi ↑w.length) = (vi (↑w.length)), Bn .gtr 3 (.tmp 25) (.const (vi 40)) (vi ↑w.length) (vi 40) bF]) Tryz.func138 (by kernel_rfl) (by kernel_rfl) ⟨p_Find1, lenS _, bin_ilt (decide_eq_false (by omega)), lenS _, bin_igt (decide_eq_false (by omega)), trivial⟩
/- the parser -/
abbrev psB (all : List Rdr.Tok) (i : Int) : Option Bx := some (.cells [.dt (.row pkg1), stA lispB, toksA all, inA i])
theorem ix_tok {all : List Rdr.Tok} {i : Nat} {t : Rdr.Tok} (h : all[i]? = some t) : IxAt (all.map tokC) (i : Int) 5 (tokC t) := ⟨Int.natCast_nonneg _, by
  rw [Int.toNat_natCast, List.getElem?_map, h]; rfl, rfl⟩
abbrev tokP (t : Rdr.Tok) : AV := .pin ((tokC t).map .dt)
theorem p_objN {all : List Rdr.Tok} {i p : Nat} {d : Int} {w e : List UInt8} (h : all[i]? = some ⟨5, p, w, e⟩) (hl : all.length ≤ 10000) : Suk 117 [.ptr 0 0, inA d] [psB all i] (.tup [.agg [inA 1, stA w, stA e, stA [], stA [], stA [], .nil], seA]) [psB all ((i + 1 : Nat) : Int)] :=
  psw (n := 1) (ks := [0]) (an := [.av (tokP ⟨5, p, w, e⟩), .no, .no, .no, .no, .av (inA ((i + 1 : Nat) : Int))]) (ls := []) (ps := [IxAt (List.map tokC all) ↑i 5 ([(.val (vi ({ kind := 5, pos := p, text := w, den := e : Rdr.Tok }.kind))), (.val (vi (↑{ kind := 5, pos := p, text := w, den := e : Rdr.Tok }.pos))), (.val (str [])), (.val (Value.string ({ data := { kind := 5, pos := p, text := w, den := e : Rdr.Tok }.text.toArray : ByteArray }))), (.val (Value.string ({ data := { kind := 5, pos := p, text := w, den := e : Rdr.Tok }.den.toArray : ByteArray })))]), Bn .add 3 (.tmp 43) (.const (vi 1)) (vi ↑i) (vi 1) (vi (↑(i + 1)))]) Tryz.func117 (by kernel_rfl) (by kernel_rfl) ⟨ix_tok h, bin_iadd (by omega) (by omega) (by have := (List.getElem?_eq_some_iff.1 h).1; omega), trivial⟩
theorem p_objS {all : List Rdr.Tok} {i p : Nat} {d : Int} {w e : List UInt8} (h : all[i]? = some ⟨6, p, w, e⟩) (hl : all.length ≤ 10000) (h0 : 1 ≤ w.length) (h1 : w.length ≤ 40) : Suk 117 [.ptr 0 0, inA d] [psB all i] (.tup [obA ⟨2, [], [], lispB, w, [], []⟩, seA]) [psB all ((i + 1 : Nat) : Int)] :=
  psw (n := 1) (ks := [0]) (an := [.av (tokP ⟨6, p, w, e⟩), .no, .no, .no, .no, .no, .no, .av (inA ((i + 1 : Nat) : Int)), .no, .av (.tup [syA lispB w, inA 0]), .no, .av (obA ⟨2, [], [], lispB, w, [], []⟩)]) (ls := []) (ps := [IxAt (List.map tokC all) ↑i 5 ([(.val (vi ({ kind := 6, pos := p, text := w, den := e : Rdr.Tok }.kind))), (.val (vi (↑{ kind := 6, pos := p, text := w, den := e : Rdr.Tok }.pos))), (.val (str [])), (.val (Value.string ({ data := { kind := 6, pos := p, text := w, den := e : Rdr.Tok }.text.toArray : ByteArray }))), (.val (Value.string ({ data := { kind := 6, pos := p, text := w, den := e : Rdr.Tok }.den.toArray : ByteArray })))]), Bn .add 3 (.tmp 71) (.const (vi 1)) (vi ↑i) (vi 1) (vi (↑(i + 1))), Puk 138 [(.dt (.row [[(.val (str lispB)), (.row [])]])), (stA lispB), (.dt (.val (Value.string ({ data := { kind := 6, pos := p, text := w, den := e : Rdr.Tok }.text.toArray : ByteArray }))))] (.tup [(syA lispB w), (inA 0)]), Puk 52 [(syA lispB w)] (obA ({ kind := 2, num := [], den := [], sp := lispB, sn := w, text := [], pair := [] : Ob }))]) Tryz.func117 (by kernel_rfl) (by kernel_rfl) ⟨ix_tok h, bin_iadd (by omega) (by omega) (by have := (List.getElem?_eq_some_iff.1 h).1; omega), p_Intern1 h0 h1, p_rSym _ _, trivial⟩
theorem p_objL {all : List Rdr.Tok} {i k p : Nat} {d : Int} {w e : List UInt8} {o : Ob} (h : all[i]? = some ⟨1, p, w, e⟩) (hl : all.length ≤ 10000) (hd0 : 0 ≤ d) (hd : d ≤ 200) (hs : Suk 139 [.ptr 0 0, inA (d + 1)] [psB all ((i + 1 : Nat) : Int)] (.tup [obA o, seA]) [psB all k]) : Suk 117 [.ptr 0 0, inA d] [psB all i] (.tup [obA o, seA]) [psB all k] :=
  psw (n := 1) (ks := [0]) (an := [.av (tokP ⟨1, p, w, e⟩), .no, .no, .no, .no, .no, .no, yF, .av (inA ((i + 1 : Nat) : Int)), .no, .av (inA (d + 1))]) (ls := [.scl 32 3 [0] (.tup [obA o, seA]) [psB all k]]) (ps := [IxAt (List.map tokC all) ↑i 5 ([(.val (vi ({ kind := 1, pos := p, text := w, den := e : Rdr.Tok }.kind))), (.val (vi (↑{ kind := 1, pos := p, text := w, den := e : Rdr.Tok }.pos))), (.val (str [])), (.val (Value.string ({ data := { kind := 1, pos := p, text := w, den := e : Rdr.Tok }.text.toArray : ByteArray }))), (.val (Value.string ({ data := { kind := 1, pos := p, text := w, den := e : Rdr.Tok }.den.toArray : ByteArray })))]), Bn .gtr 3 (.tmp 104) (.const (vi 200)) (vi d) (vi 200) bF, Bn .add 3 (.tmp 113) (.const (vi 1)) (vi ↑i) (vi 1) (vi (↑(i + 1))), Bn .add 3 (.tmp 139) (.const (vi 1)) (vi d) (vi 1) (vi (d + 1)), Suk 139 [AV.ptr 0 0, AV.dt (Dt.val (vi (d + 1)))] [some (Bx.cells [AV.dt (Dt.row pkg1), AV.dt (Dt.val (str lispB)), AV.dt (Dt.row (List.map tokC all)), AV.dt (Dt.val (vi ↑(i + 1)))])] (AV.tup [obA o, seA]) [psB all ↑k]]) Tryz.func117 (by kernel_rfl) (by kernel_rfl) ⟨ix_tok h, bin_igt (decide_eq_false (by omega)), bin_iadd (by omega) (by omega) (by have := (List.getElem?_eq_some_iff.1 h).1; omega), bin_iadd rfl (by omega) (by omega), hs, trivial⟩
end Go.Proofs.YtendgffijciehaaGreatDoor
/- Lists of the reference's parser, and Read. -/
namespace Go.Proofs.YtendgffijciehaaGreatDoor
open Go.RowKit

theorem src_ob1 (o : Ob) : SrcOK 7 [encL o] := by
  intro x hx
  rw [List.mem_singleton] at hx
  subst hx
  refine ⟨rfl, fun d hd => ?_⟩
  simp only [List.mem_cons, List.not_mem_nil, or_false] at hd
  rcases hd with rfl | rfl | rfl | rfl | rfl | rfl | rfl <;> rfl
abbrev zOc : Option Bx := some (.cells [inA 0, stA [], stA [], stA [], stA [], stA [], .nil])
abbrev seC : Option Bx := some (.cells [inA 0, inA 0])
abbrev obC (o : Ob) : Option Bx := some (.cells [inA o.kind, stA o.num, stA o.den, stA o.sp, stA o.sn, stA o.text, .dt (.row (o.pair.map Ob.enc))])
abbrev lsX (all : List Rdr.Tok) (i : Int) (last : Ob) : List (Option Bx) := [psB all i, zOc, seC, obC last]
abbrev lsS (all : List Rdr.Tok) (i d : Int) (es : List (List Dt)) : AS := ⟨stt 124 [(0, .ptr 0 0), (1, inA d), (4, .ptr 1 0), (5, .ptr 2 0), (6, .own 4 es.length), (7, .ptr 3 0)], lsX all i nilO ++ [some (.buf 35 7 es)]⟩
abbrev ls0 (all : List Rdr.Tok) (i d : Int) : AS := ⟨stt 124 [(0, .ptr 0 0), (1, inA d), (4, .ptr 1 0), (5, .ptr 2 0), (6, .nil), (7, .ptr 3 0)], lsX all i nilO⟩
noncomputable abbrev lsB : Code := subC (bodyOf Tryz.f139) [1,1,1,0,0,0]
theorem lsB1 {all : List Rdr.Tok} {i k : Nat} {d : Int} {es : List (List Dt)} {t : Rdr.Tok} {o : Ob} (h : all[i]? = some t) (h2 : t.kind ≠ 2) (h3 : t.kind ≠ 3) (he : es.length ≤ 10000) (ho : Suk 117 [.ptr 0 0, inA d] [psB all i] (.tup [obA o, seA]) [psB all k]) : Tri (EXn 1) lsB (lsS all i d es) .nxt (lsS all k d (es ++ [encL o])) :=
  tw (E := EXn 1) (c := subC (bodyOf Tryz.f139) [1,1,1,0,0,0]) (s := lsS all i d es) (an := [.av (tokP t), yT, .av (tokP t), yF, .no, .av (.un)]) (ls := [.scl 16 2 [0] (.tup [obA o, seA]) [psB all k]]) (ft := [0,1,4,5,6,7]) (nb := 5) (e := .nxt) (s' := lsS all k d (es ++ [encL o])) (ps := [IxAt (List.map tokC all) ↑i 5 ([(.val (vi t.kind)), (.val (vi ↑t.pos)), (.val (str [])), (.val (str t.text)), (.val (str t.den))]), Bn .neq 3 (.tmp 25) (.const (vi 2)) (vi t.kind) (vi 2) bT, IxAt (List.map tokC all) ↑i 5 ([(.val (vi t.kind)), (.val (vi ↑t.pos)), (.val (str [])), (.val (str t.text)), (.val (str t.den))]), Bn .eql 3 (.tmp 37) (.const (vi 3)) (vi t.kind) (vi 3) bF, Suk 117 [AV.ptr 0 0, AV.dt (Dt.val (vi d))] [some (Bx.cells [AV.dt (Dt.row pkg1), AV.dt (Dt.val (str lispB)), AV.dt (Dt.row (List.map tokC all)), AV.dt (Dt.val (vi ↑i))])] (AV.tup [obA o, seA]) [psB all ↑k], (es.length) = (es.length), FitB 112 ((es ++ [[Dt.val (vi o.kind), Dt.val (str o.num), Dt.val (str o.den), Dt.val (str o.sp), Dt.val (str o.sn), Dt.val (str o.text), Dt.row (List.map Ob.enc o.pair)]]).length), SrcOK 7 [encL o]]) (by kernel_rfl)
    ⟨ix_tok h, bin_ine (by simp [h2]), ix_tok h, bin_ieq (decide_eq_false h3), ho, rfl, fit_of (by omega) (by simp; omega), src_ob1 o, trivial⟩
theorem lsB2 {all : List Rdr.Tok} {i : Nat} {d : Int} {es : List (List Dt)} {t : Rdr.Tok} (h : all[i]? = some t) (h2 : t.kind = 2) : Tri (EXn 1) lsB (lsS all i d es) (.out 0) (lsS all i d es) :=
  tw (E := EXn 1) (c := subC (bodyOf Tryz.f139) [1,1,1,0,0,0]) (s := lsS all i d es) (an := [.av (tokP t), yF]) (ls := []) (ft := [0,1,4,5,6,7]) (nb := 5) (e := .out 0) (s' := lsS all i d es) (ps := [IxAt (List.map tokC all) ↑i 5 ([(.val (vi t.kind)), (.val (vi ↑t.pos)), (.val (str [])), (.val (str t.text)), (.val (str t.den))]), Bn .neq 3 (.tmp 25) (.const (vi 2)) (vi t.kind) (vi 2) bF]) (by kernel_rfl)
    ⟨ix_tok h, bin_ine (by simp [h2]), trivial⟩
/- the conses, from the back -/
abbrev lsE (all : List Rdr.Tok) (i d : Int) (es : List (List Dt)) : AS := ⟨stt 124 [(0, .ptr 0 0), (1, inA d), (4, .ptr 1 0), (5, .ptr 2 0), (6, .dt (.row es)), (7, .ptr 3 0)], lsX all i nilO ++ [some (.fzn es)]⟩
abbrev lbS (all : List Rdr.Tok) (i : Int) (last : Ob) (es : List (List Dt)) (j : Int) : AS := ⟨stt 124 [(4, .ptr 1 0), (5, .ptr 2 0), (6, .dt (.row es)), (7, .ptr 3 0), (13, inA j)], lsX all i last⟩
noncomputable abbrev lbB : Code := subC (bodyOf Tryz.f139) [1,1,1,1,1,0,1,0,0]
theorem lbB1 {all : List Rdr.Tok} {i : Int} {last o o2 : Ob} {es : List (List Dt)} {j : Nat} (hx : es[j]? = some (encL o)) (hl : es.length ≤ 10000) (hc : Puk 125 [obA o, obA last] (obA o2)) : Tri (EXn 1) lbB (lbS all i last es j) .nxt (lbS all i o2 es ((j : Int) - 1)) :=
  tw (E := EXn 1) (c := subC (bodyOf Tryz.f139) [1,1,1,1,1,0,1,0,0]) (s := lbS all i last es j) (an := [yT, .av (.pin ((encL o).map .dt)), .av (obA o2), .av (inA ((j : Int) - 1))]) (ls := []) (ft := [4,5,6,7,13]) (nb := 4) (e := .nxt) (s' := lbS all i o2 es ((j : Int) - 1)) (ps := [Bn .geq 3 (.tmp 112) (.const (vi 0)) (vi ↑j) (vi 0) bT, IxAt es ↑j 7 (encL o), Puk 125 [(obA o), (obA last)] (obA o2), Bn .sub 3 (.tmp 114) (.const (vi 1)) (vi ↑j) (vi 1) (vi (↑j - 1))]) (by kernel_rfl)
    ⟨bin_ige (decide_eq_true (by omega)), ⟨by omega, by rw [Int.toNat_natCast]; exact hx, rfl⟩, hc, bin_isub rfl (by omega) (by have := (List.getElem?_eq_some_iff.1 hx).1; omega), trivial⟩
theorem lbB2 {all : List Rdr.Tok} {i : Int} {last : Ob} {es : List (List Dt)} {j : Int} (hj : j < 0) : Tri (EXn 1) lbB (lbS all i last es j) (.out 3) (lbS all i last es j) :=
  tw (E := EXn 1) (c := subC (bodyOf Tryz.f139) [1,1,1,1,1,0,1,0,0]) (s := lbS all i last es j) (an := [yF]) (ls := []) (ft := [4,5,6,7,13]) (nb := 4) (e := .out 3) (s' := lbS all i last es j) (ps := [Bn .geq 3 (.tmp 112) (.const (vi 0)) (vi j) (vi 0) bF]) (by kernel_rfl)
    ⟨bin_ige (decide_eq_false (by omega)), trivial⟩
theorem lb_loop {all : List Rdr.Tok} {i : Int} {l : List Tr} (hl : l.length ≤ 10000) : ∀ (j : Nat), j ≤ l.length → Lps (EXn 1) lbB (lbS all i (Tr.list (l.drop j)).ob (encOs l) ((j : Int) - 1)) (.out 3) (lbS all i (Tr.list l).ob (encOs l) (-1)) := by
  intro j
  induction j with
  | zero =>
    intro _
    rw [List.drop_zero]
    exact .stop (lbB2 (by omega)) (fun h => by cases h)
  | succ j ih =>
    intro hj
    have hx : (encOs l)[j]? = some (encL (l[j]'(by omega)).ob) := by
      unfold encOs
      rw [List.getElem?_map, List.getElem?_eq_getElem (by omega)]
      rfl
    have hc := p_rCons (l[j]'(by omega)).ob (Tr.list (l.drop (j + 1))).ob
    have e : consO (l[j]'(by omega)).ob (Tr.list (l.drop (j + 1))).ob = (Tr.list (l.drop j)).ob := by
      rw [List.drop_eq_getElem_cons (show j < l.length by omega)]
      rfl
    rw [e] at hc
    have h1 := lbB1 (all := all) (i := i) hx (by unfold encOs; rw [List.length_map]; omega) hc
    rw [show (((j + 1 : Nat) : Int) - 1) = (j : Int) by omega]
    exact .more h1 (ih (by omega))
theorem w_list {all : List Rdr.Tok} {i k : Nat} {d : Int} {o : Ob} {es : List (List Dt)} (h1 : Tri (EXn 1) (.loop lsB) (ls0 all i d) (.out 0) (lsE all k d es)) (hk : k ≤ 10000) (he : es.length ≤ 10000) (h2 : Tri (EXn 1) (.loop lbB) (lbS all ((k + 1 : Nat) : Int) nilO es ((es.length : Int) - 1)) (.out 3) (lbS all ((k + 1 : Nat) : Int) o es (-1))) : Suk 139 [.ptr 0 0, inA d] [psB all i] (.tup [obA o, seA]) [psB all ((k + 1 : Nat) : Int)] :=
  psw (n := 1) (ks := [0]) (an := [.av (obA nilO), .av (inA ((k + 1 : Nat) : Int)), .av (inA es.length), .av (inA ((es.length : Int) - 1))]) (ls := [.inv [0,1,4,5,6,7] 4 (.out 0) (lsE all k d es), .inv [4,5,6,7,13] 4 (.out 3) (lbS all ((k + 1 : Nat) : Int) o es (-1))]) (ps := [Puk 17 [] (obA nilO), Tri (EXn 1) (.loop (subC (bodyOf Tryz.f139) [1,1,1,0,0,0])) (ls0 all i d) (.out 0) (lsE all k d es), Bn .add 3 (.tmp 105) (.const (vi 1)) (vi ↑k) (vi 1) (vi (↑(k + 1))), (vi ↑es.length) = (vi ↑es.length), Bn .sub 3 (.tmp 110) (.const (vi 1)) (vi ↑es.length) (vi 1) (vi (↑es.length - 1)), Tri (EXn 1) (.loop (subC (bodyOf Tryz.f139) [1,1,1,1,1,0,1,0,0])) (lbS all ((k + 1 : Nat) : Int) nilO es ((es.length : Int) - 1)) (.out 3) (lbS all ((k + 1 : Nat) : Int) o es (-1))]) Tryz.func139 (by kernel_rfl) (by kernel_rfl) ⟨p_rNil, h1, bin_iadd (by omega) (by omega) (by omega), rfl, bin_isub rfl (by omega) (by omega), h2, trivial⟩
end Go.Proofs.YtendgffijciehaaGreatDoor
/- The parser and Read of the reference. -/
namespace Go.Proofs.YtendgffijciehaaGreatDoor
open Go.RowKit

namespace Rdr
theorem prO_0 (d : Nat) (ts : List Tok) : prO 0 d ts = none := by rw [prO.eq_def]
theorem prL_0 (d : Nat) (ts : List Tok) : prL 0 d ts = none := by rw [prL.eq_def]
theorem prO_n (f d : Nat) : prO f d [] = none := by cases f <;> rw [prO.eq_def]
theorem prL_n (f d : Nat) : prL f d [] = none := by cases f <;> rw [prL.eq_def]
theorem prO_c (f d : Nat) (t : Tok) (r : List Tok) : prO (f + 1) d (t :: r) = (if t.kind = 5 then some (.num (numOf t.text), r)
      else if t.kind = 6 then some (.sym lispB t.text, r)
      else if t.kind = 1 ∧ d ≤ 200 then match prL f (d + 1) r with
        | some (l, r') => some (Tr.list l, r')
        | none => none
      else none) := by rw [prO.eq_def]; rfl
theorem prL_c (f d : Nat) (t : Tok) (r : List Tok) : prL (f + 1) d (t :: r) = (if t.kind = 2 then some ([], r)
      else match prO f d (t :: r) with
        | some (x, r1) => match prL f d r1 with
          | some (l, r2) => some (x :: l, r2)
          | none => none
        | none => none) := by rw [prL.eq_def]; rfl
end Rdr
/-- the tokens that the walks of the parser cover -/
def TokOK (t : Rdr.Tok) : Bool := (!decide (t.kind = 5) || (t.den == [49] && (t.text == [48] || t.text == [49] || t.text == [45, 49]))) && (!decide (t.kind = 6) || (decide (1 ≤ t.text.length) && decide (t.text.length ≤ 40)))
theorem num_ob {w : List UInt8} (h : (w == [48] || w == [49] || w == [45, 49]) = true) : (Tr.num (Rdr.numOf w)).ob = ⟨1, w, [49], [], [], [], []⟩ := by
  simp only [Bool.or_eq_true, beq_iff_eq] at h
  rcases h with (rfl | rfl) | rfl <;> decide +kernel
theorem prO_kind {f d : Nat} {t : Rdr.Tok} {ts : List Rdr.Tok} {y : Tr × List Rdr.Tok} (h : Rdr.prO f d (t :: ts) = some y) : t.kind ≠ 3 := by
  cases f with
  | zero => rw [Rdr.prO_0] at h; cases h
  | succ f =>
    rw [Rdr.prO_c] at h
    intro e
    rw [e] at h
    simp at h
theorem drop_one {α : Type} {l : List α} {i : Nat} {t : α} {r : List α} (h : l.drop i = t :: r) : l[i]? = some t ∧ l.drop (i + 1) = r ∧ i < l.length := by
  have h1 : l[i]? = some t := by rw [← List.head?_drop, h]; rfl
  exact ⟨h1, by rw [← List.drop_drop, h]; rfl, (List.getElem?_eq_some_iff.1 h1).1⟩
def ObP (all : List Rdr.Tok) (f : Nat) : Prop := ∀ (d i : Nat) (x : Tr) (r : List Rdr.Tok), Rdr.prO f d (all.drop i) = some (x, r) → d ≤ 300 → ∃ k, i < k ∧ k ≤ all.length ∧ r = all.drop k ∧ Suk 117 [.ptr 0 0, inA d] [psB all i] (.tup [trA x, seA]) [psB all k]
def LsP (all : List Rdr.Tok) (f : Nat) : Prop := ∀ (d i : Nat) (l : List Tr) (r : List Rdr.Tok) (es : List (List Dt)), Rdr.prL f d (all.drop i) = some (l, r) → d ≤ 300 → es.length ≤ i → ∃ k, i ≤ k ∧ k < all.length ∧ r = all.drop (k + 1) ∧ es.length + l.length ≤ k ∧ Lps (EXn 1) lsB (lsS all i d es) (.out 0) (lsS all k d (es ++ encOs l))
theorem p_pr {all : List Rdr.Tok} (hl : all.length ≤ 5000) (hok : ∀ t ∈ all, TokOK t = true) : ∀ f, ObP all f ∧ LsP all f := by
  intro f
  induction f with
  | zero => exact ⟨fun d i x r h _ => (by rw [Rdr.prO_0] at h; cases h), fun d i l r es h _ _ => (by rw [Rdr.prL_0] at h; cases h)⟩
  | succ f ih =>
    obtain ⟨ihO, ihL⟩ := ih
    refine ⟨fun d i x r h hd => ?_, fun d i l r es h hd he => ?_⟩
    · cases hts : all.drop i with
      | nil => rw [hts, Rdr.prO_n] at h; cases h
      | cons t ts =>
        rw [hts, Rdr.prO_c] at h
        obtain ⟨ht, hd1, hlt⟩ := drop_one hts
        have hk := hok t (List.mem_of_getElem? ht)
        obtain ⟨tk, tp, tw, td⟩ := t
        unfold TokOK at hk
        simp only at hk h
        by_cases h5 : tk = 5
        · subst h5
          rw [if_pos rfl] at h
          cases h
          simp only [decide_true, Bool.not_true, Bool.false_or, Bool.and_eq_true] at hk
          obtain ⟨⟨k1, k2⟩, _⟩ := hk
          rw [beq_iff_eq] at k1
          subst k1
          refine ⟨i + 1, by omega, by omega, hd1.symm, (p_objN ht (by omega)).cast fun M w v hv => ?_⟩
          show RV M w (.tup [obA (Tr.num (Rdr.numOf tw)).ob, seA]) v
          rw [num_ob k2]
          obtain ⟨vs, rfl, u0, us0, rfl, ⟨ws, rfl, w0, vs0, rfl, a0, w1, vs1, rfl, a1, w2, vs2, rfl, a2, w3, vs3, rfl, a3, w4, vs4, rfl, a4, w5, vs5, rfl, a5, w6, vs6, rfl, a6, a7⟩, b1⟩ := hv
          exact ⟨_, rfl, _, _, rfl, ⟨_, rfl, w0, _, rfl, a0, w1, _, rfl, a1, w2, _, rfl, a2, w3, _, rfl, a3, w4, _, rfl, a4, w5, _, rfl, a5, w6, _, rfl, RV.nilRow a6, a7⟩, b1⟩
        rw [if_neg h5] at h
        by_cases h6 : tk = 6
        · subst h6
          rw [if_pos rfl] at h
          cases h
          simp only [decide_true, Bool.not_true, Bool.false_or, Bool.and_eq_true, decide_eq_true_eq] at hk
          exact ⟨i + 1, by omega, by omega, hd1.symm, p_objS ht (by omega) hk.2.1 hk.2.2⟩
        rw [if_neg h6] at h
        by_cases h1 : tk = 1 ∧ d ≤ 200
        · rw [if_pos h1] at h
          obtain ⟨h1, h200⟩ := h1
          subst h1
          split at h
          · rename_i l r' hpl
            cases h
            rw [← hd1] at hpl
            obtain ⟨k, g1, g2, g3, g4, g5⟩ := ihL (d + 1) (i + 1) l _ [] hpl (by omega) (Nat.zero_le _)
            have g6 : Tri (EXn 1) (.loop lsB) (ls0 all ((i + 1 : Nat) : Int) ((d + 1 : Nat) : Int)) (.out 0) (lsS all k ((d + 1 : Nat) : Int) (encOs l)) := Tri.own0 6 35 7 (by show 6 < 124; omega) rfl g5.tri
            have g7 : Tri (EXn 1) (.loop lsB) (ls0 all ((i + 1 : Nat) : Int) ((d + 1 : Nat) : Int)) (.out 0) (lsE all k ((d + 1 : Nat) : Int) (encOs l)) := Tri.frz 6 4 (T := 35) (kk := 7) (by show 6 < 124; omega) rfl rfl g6
            have hln : (encOs l).length = l.length := List.length_map ..
            have g8 := (lb_loop (all := all) (i := ((k + 1 : Nat) : Int)) (l := l) (by rw [List.length_nil] at g4; omega) l.length (Nat.le_refl _)).tri
            rw [List.drop_length, ← hln] at g8
            have g9 := w_list g7 (by omega) (by rw [hln]; rw [List.length_nil] at g4; omega) g8
            exact ⟨k + 1, by omega, by omega, g3, p_objL ht (by omega) (by omega) (by omega) g9⟩
          · cases h
        · rw [if_neg h1] at h; cases h
    · cases hts : all.drop i with
      | nil => rw [hts, Rdr.prL_n] at h; cases h
      | cons t ts =>
        rw [hts, Rdr.prL_c] at h
        obtain ⟨ht, hd1, hlt⟩ := drop_one hts
        by_cases h2 : t.kind = 2
        · rw [if_pos h2] at h
          cases h
          refine ⟨i, Nat.le_refl _, hlt, hd1.symm, by simpa using he, ?_⟩
          rw [show es ++ encOs [] = es from List.append_nil _]
          exact .stop (lsB2 ht h2) (fun h => by cases h)
        · rw [if_neg h2] at h
          split at h
          · rename_i x r1 hpo
            split at h
            · rename_i l' r2 hpl
              cases h
              have h3 := prO_kind hpo
              rw [← hts] at hpo
              obtain ⟨k1, a1, a2, a3, a4⟩ := ihO d i x r1 hpo hd
              rw [a3] at hpl
              obtain ⟨k, g1, g2, g3, g4, g5⟩ := ihL d k1 l' _ (es ++ [encL x.ob]) hpl hd (by rw [List.length_append, List.length_singleton]; omega)
              rw [List.length_append, List.length_singleton] at g4
              rw [List.append_assoc] at g5
              exact ⟨k, by omega, g2, g3, by rw [List.length_cons]; omega, .more (lsB1 ht h2 h3 (by omega) a4) g5⟩
            · cases h
          · cases h
end Go.Proofs.YtendgffijciehaaGreatDoor
/- Read of the reference, and the definitions of the built-in world. -/
namespace Go.Proofs.YtendgffijciehaaGreatDoor
open Go.RowKit

namespace Rdr
theorem prs_c (f : Nat) (t : Tok) (r : List Tok) : prs (f + 1) (t :: r) = (if t.kind = 0 then some []
      else match prO f 0 (t :: r) with
        | some (x, r1) => match prs f r1 with
          | some l => some (x :: l)
          | none => none
        | none => none) := by rw [prs.eq_def]; rfl
theorem prs_n (f : Nat) : prs f [] = none := by cases f <;> rw [prs.eq_def]
theorem prs_0 (ts : List Tok) : prs 0 ts = none := by rw [prs.eq_def]
/-- small numbers and short names, all the way down -/
def okT : Tr → Bool
  | .num q => decide (q.num.natAbs < 10000) && decide (q.den < 10000)
  | .sym p n => decide (p.length ≤ 1000) && decide (n.length ≤ 1000)
  | .txt s => decide (s.length ≤ 1000)
  | .cons a d => okT a && okT d
theorem okT_ok : ∀ {t : Tr}, okT t = true → t.Ok 10000
  | .num q, h => by
    unfold okT at h
    simp only [Bool.and_eq_true, decide_eq_true_eq] at h
    exact Tr.Ok.mono (k := 4) (t := .num q) (by decide) ⟨h.1, h.2, by decide⟩
  | .sym p n, h => by
    unfold okT at h
    simp only [Bool.and_eq_true, decide_eq_true_eq] at h
    exact ⟨by omega, by omega⟩
  | .txt s, h => by
    unfold okT at h
    simp only [decide_eq_true_eq] at h
    show s.length ≤ 100000
    omega
  | .cons a d, h => by
    unfold okT at h
    simp only [Bool.and_eq_true] at h
    exact ⟨okT_ok h.1, okT_ok h.2⟩
end Rdr
abbrev rfX (all : List Rdr.Tok) (i : Int) : List (Option Bx) := [seC, seC, psB all i]
abbrev rfS (all : List Rdr.Tok) (i : Int) (es : List (List Dt)) : AS := ⟨stt 97 [(7, .ptr 0 0), (10, .ptr 2 0), (11, .own 3 es.length)], rfX all i ++ [some (.buf 35 7 es)]⟩
abbrev rf0 (all : List Rdr.Tok) (i : Int) : AS := ⟨stt 97 [(7, .ptr 0 0), (10, .ptr 2 0), (11, .nil)], rfX all i⟩
noncomputable abbrev rfB : Code := subC (bodyOf Tryz.f95) [1,1,1,1,1,0,0,0]
theorem rfB1 {all : List Rdr.Tok} {i k : Nat} {n : Int} {es : List (List Dt)} {t : Rdr.Tok} {o : Ob} (h : all[i]? = some t) (h0 : t.kind ≠ 0) (he : es.length < 100) (ho : Suk 117 [.ptr 0 0, inA 0] [psB all i] (.tup [obA o, seA]) [psB all k]) (hn : Puk 118 [obA o] (inA n)) (hn3 : n ≤ 3000) : Tri EX rfB (rfS all i es) .nxt (rfS all k (es ++ [encL o])) :=
  twalk (c := subC (bodyOf Tryz.f95) [1,1,1,1,1,0,0,0]) (s := rfS all i es) (an := [.av (tokP t), yT, .av (tokP t), .av (tokP t), .av (inA es.length), yF, .no, .av (inA n), yF, .av (.un)]) (ls := [.scl 11 1 [2] (.tup [obA o, seA]) [psB all k]]) (ft := [7,10,11]) (nb := 4) (e := .nxt) (s' := rfS all k (es ++ [encL o])) (ps := [IxAt (List.map tokC all) ↑i 5 ([(.val (vi t.kind)), (.val (vi ↑t.pos)), (.val (str [])), (.val (str t.text)), (.val (str t.den))]), Bn .neq 3 (.tmp 40) (.const (vi 0)) (vi t.kind) (vi 0) bT, IxAt (List.map tokC all) ↑i 5 ([(.val (vi t.kind)), (.val (vi ↑t.pos)), (.val (str [])), (.val (str t.text)), (.val (str t.den))]), IxAt (List.map tokC all) ↑i 5 ([(.val (vi t.kind)), (.val (vi ↑t.pos)), (.val (str [])), (.val (str t.text)), (.val (str t.den))]), (vi ↑es.length) = (vi ↑es.length), Bn .geq 3 (.tmp 65) (.const (vi 100)) (vi ↑es.length) (vi 100) bF, Suk 117 [AV.ptr 0 0, AV.dt (Dt.val (vi 0))] [some (Bx.cells [AV.dt (Dt.row pkg1), AV.dt (Dt.val (str lispB)), AV.dt (Dt.row (List.map tokC all)), AV.dt (Dt.val (vi ↑i))])] (AV.tup [obA o, seA]) [psB all ↑k], Puk 118 [(obA o)] (inA n), Bn .gtr 3 (.tmp 87) (.const (vi 3000)) (vi n) (vi 3000) bF, (es.length) = (es.length), FitB 112 ((es ++ [[Dt.val (vi o.kind), Dt.val (str o.num), Dt.val (str o.den), Dt.val (str o.sp), Dt.val (str o.sn), Dt.val (str o.text), Dt.row (List.map Ob.enc o.pair)]]).length), SrcOK 7 [encL o]]) (by kernel_rfl)
    ⟨ix_tok h, bin_ine (by simp [h0]), ix_tok h, ix_tok h, rfl, bin_ige (decide_eq_false (by omega)), ho, hn, bin_igt (decide_eq_false (by omega)), rfl, fit_of (by omega) (by simp; omega), src_ob1 o, trivial⟩
theorem rfB2 {all : List Rdr.Tok} {i : Nat} {es : List (List Dt)} {t : Rdr.Tok} (h : all[i]? = some t) (h0 : t.kind = 0) : Tri EX rfB (rfS all i es) (.out 0) (rfS all i es) :=
  twalk (c := subC (bodyOf Tryz.f95) [1,1,1,1,1,0,0,0]) (s := rfS all i es) (an := [.av (tokP t), yF]) (ls := []) (ft := [7,10,11]) (nb := 4) (e := .out 0) (s' := rfS all i es) (ps := [IxAt (List.map tokC all) ↑i 5 ([(.val (vi t.kind)), (.val (vi ↑t.pos)), (.val (str [])), (.val (str t.text)), (.val (str t.den))]), Bn .neq 3 (.tmp 40) (.const (vi 0)) (vi t.kind) (vi 0) bF]) (by kernel_rfl)
    ⟨ix_tok h, bin_ine (by simp [h0]), trivial⟩
theorem rf_loop {all : List Rdr.Tok} (hl : all.length ≤ 5000) (hok : ∀ t ∈ all, TokOK t = true) : ∀ (f i : Nat) (l : List Tr) (es : List (List Dt)), Rdr.prs f (all.drop i) = some l → (∀ x ∈ l, x.Ok 10000 ∧ x.ob.nodes ≤ 3000) → es.length + l.length ≤ 99 → ∃ k : Nat, Lps EX rfB (rfS all i es) (.out 0) (rfS all k (es ++ encOs l)) := by
  intro f
  induction f with
  | zero => intro i l es h; rw [Rdr.prs_0] at h; cases h
  | succ f ih =>
    intro i l es h hx hlen
    cases hts : all.drop i with
    | nil => rw [hts, Rdr.prs_n] at h; cases h
    | cons t ts =>
      rw [hts, Rdr.prs_c] at h
      obtain ⟨ht, hd1, hlt⟩ := drop_one hts
      by_cases h0 : t.kind = 0
      · rw [if_pos h0] at h
        cases h
        refine ⟨i, ?_⟩
        rw [show es ++ encOs [] = es from List.append_nil _]
        exact .stop (rfB2 ht h0) (fun h => by cases h)
      · rw [if_neg h0] at h
        split at h
        · rename_i x r1 hpo
          split at h
          · rename_i l' hpl
            cases h
            rw [← hts] at hpo
            obtain ⟨k1, a1, a2, a3, a4⟩ := (p_pr hl hok f).1 0 i x r1 hpo (by omega)
            rw [a3] at hpl
            rw [List.length_cons] at hlen
            obtain ⟨g1, g2⟩ := hx x (List.mem_cons_self ..)
            have hP := Te.nodesP_min x.ob
            obtain ⟨k, g5⟩ := ih k1 l' (es ++ [encL x.ob]) hpl (fun y hy => hx y (List.mem_cons_of_mem _ hy)) (by rw [List.length_append, List.length_singleton]; omega)
            rw [List.append_assoc] at g5
            exact ⟨k, .more (rfB1 ht h0 (by omega) a4 (p_rNodesO (g1.wf (by decide))) (by omega)) g5⟩
          · cases h
        · cases h
theorem w_Read {s : List UInt8} {all : List Rdr.Tok} {k : Nat} {es : List (List Dt)} (ht : Puk 115 [stA s] (.tup [toksA all, seA])) (hl : Tri EX (.loop rfB) (rf0 all 0) (.out 0) (rfS all k es)) : Puk 95 [.dt (.row pkg1), stA lispB, stA s] (.tup [.dt (.row es), seA]) :=
  pwalk (an := [.av (.tup [toksA all, seA]), .no]) (ls := [.inv [7,10,11] 3 (.out 0) (rfS all k es)]) (ps := [Puk 115 [(stA s)] (.tup [(.dt (.row (List.map tokC all))), (.agg [(inA 0), (inA 0)])]), Tri EX (.loop (subC (bodyOf Tryz.f95) [1,1,1,1,1,0,0,0])) (rf0 all 0) (.out 0) (rfS all k es), (es.length) = (es.length)]) Tryz.func95 (by kernel_rfl) (by kernel_rfl) ⟨ht, hl, rfl, trivial⟩
/-- the objects of a text -/
theorem p_Read {s : List UInt8} {l : List Tr} {f : Nat} (hs : Txt s) (hw : ∀ t ∈ Rdr.tk 0 s, t.kind = 5 ∨ t.kind = 6 → Rdr.wOK t.text = true) (hok : ∀ t ∈ Rdr.tk 0 s, TokOK t = true) (hn : (Rdr.tk 0 s).length ≤ 5000) (hp : Rdr.prs f (Rdr.tk 0 s) = some l) (hx : ∀ x ∈ l, x.Ok 10000 ∧ x.ob.nodes ≤ 3000) (hl : l.length ≤ 99) : Puk 95 [.dt (.row pkg1), stA lispB, stA s] (.tup [rowA l, seA]) := by
  obtain ⟨k, g⟩ := rf_loop hn hok f 0 l [] hp hx (by rw [List.length_nil]; omega)
  have g6 : Tri EX (.loop rfB) (rf0 (Rdr.tk 0 s) 0) (.out 0) (rfS (Rdr.tk 0 s) k (encOs l)) := Tri.own0 11 35 7 (by show 11 < 97; omega) rfl g.tri
  exact w_Read (p_Tokens hs hw) g6
end Go.Proofs.YtendgffijciehaaGreatDoor
/- The definitions of the built-in world. -/
namespace Go.Proofs.YtendgffijciehaaGreatDoor
open Go.RowKit

theorem p_Text : Puk 97 [] (stA textB) := pwalk (an := []) (ls := []) (ps := []) Tryz.func97 (by kernel_rfl) (by kernel_rfl) trivial
def allB : List Rdr.Tok := Rdr.tk 0 textB
/-- the forms of the built-in text -/
def forms : List Tr := (Rdr.prs 3000 allB).getD []
theorem txtB : Txt textB := ⟨by decide +kernel, by
  have h : textB.all Rdr.few = true := by decide +kernel
  exact List.all_eq_true.1 h⟩
theorem allB_w : ∀ t ∈ Rdr.tk 0 textB, t.kind = 5 ∨ t.kind = 6 → Rdr.wOK t.text = true := by
  have h : Rdr.toksOK (Rdr.tk 0 textB) = true := by decide +kernel
  intro t ht hk
  have := List.all_eq_true.1 h t ht
  rwa [if_pos hk] at this
theorem allB_ok : ∀ t ∈ Rdr.tk 0 textB, TokOK t = true := by
  have h : (Rdr.tk 0 textB).all TokOK = true := by decide +kernel
  exact List.all_eq_true.1 h
theorem allB_len : (Rdr.tk 0 textB).length ≤ 5000 := by decide +kernel
theorem forms_eq : Rdr.prs 3000 (Rdr.tk 0 textB) = some forms := by
  have h : (Rdr.prs 3000 (Rdr.tk 0 textB)).isSome = true := by decide +kernel
  obtain ⟨l, hl⟩ := Option.isSome_iff_exists.1 h
  unfold forms allB
  rw [hl]
  rfl
theorem forms_len : forms.length = 28 := by decide +kernel
theorem forms_ok : ∀ x ∈ forms, x.Ok 10000 ∧ x.ob.nodes ≤ 3000 := by
  have h : (forms.all fun x => Rdr.okT x && decide (x.ob.nodes ≤ 3000)) = true := by decide +kernel
  intro x hx
  have := List.all_eq_true.1 h x hx
  simp only [Bool.and_eq_true, decide_eq_true_eq] at this
  exact ⟨Rdr.okT_ok this.1, this.2⟩
theorem p_definitions : Puk 72 [] (rowA forms) := by
  have h := p_Read txtB allB_w allB_ok allB_len forms_eq forms_ok (by rw [forms_len]; decide)
  generalize forms = l at *
  exact pwalk (an := [.av (.dt (.row pkg1)), .av (stA textB), .av (.tup [rowA l, seA])]) (ls := []) (ps := [Puk 96 [] (.dt (.row [[(.val (str lispB)), (.row [])]])), Puk 97 [] (stA textB), Puk 95 [(.dt (.row [[(.val (str lispB)), (.row [])]])), (stA [108, 105, 115, 112]), (stA textB)] (.tup [(.dt (.row (List.map (fun t => encL t.ob) l))), (.agg [(inA 0), (inA 0)])])]) Tryz.func72 (by kernel_rfl) (by kernel_rfl) ⟨p_Initial, p_Text, h, trivial⟩
end Go.Proofs.YtendgffijciehaaGreatDoor
/- Items of a list, calls and the expansions of the macros that the built-in text uses. -/
namespace Go.Proofs.YtendgffijciehaaGreatDoor
open Go.RowKit

abbrev itS (o : Ob) (es : List (List Dt)) : AS := ⟨stt 22 [(1, .ptr 0 0), (4, .own 1 es.length)], [obC o, some (.buf 35 7 es)]⟩
abbrev it0 (o : Ob) : AS := ⟨stt 22 [(1, .ptr 0 0), (4, .nil)], [obC o]⟩
noncomputable abbrev itB : Code := subC (bodyOf Tryz.f98) [1,1,0,0,0]
theorem itB1 {o a d : Ob} {es : List (List Dt)} (hc : Puk 119 [obA o] (boA true)) (h0 : IxAt (o.pair.map Ob.enc) 0 7 (encL a)) (h1 : IxAt (o.pair.map Ob.enc) 1 7 (encL d)) (he : es.length ≤ 10000) : Tri EX itB (itS o es) .nxt (itS d (es ++ [encL a])) :=
  twalk (c := subC (bodyOf Tryz.f98) [1,1,0,0,0]) (s := itS o es) (an := [yT, .av (.pin ((encL a).map .dt)), .av (.un), .av (.pin ((encL d).map .dt))]) (ls := []) (ft := [1,4]) (nb := 2) (e := .nxt) (s' := itS d (es ++ [encL a])) (ps := [Puk 119 [(obA o)] (boA true), IxAt (List.map Ob.enc o.pair) 0 7 (encL a), (es.length) = (es.length), FitB 112 ((es ++ [[Dt.val (vi a.kind), Dt.val (str a.num), Dt.val (str a.den), Dt.val (str a.sp), Dt.val (str a.sn), Dt.val (str a.text), Dt.row (List.map Ob.enc a.pair)]]).length), SrcOK 7 [encL a], IxAt (List.map Ob.enc o.pair) 1 7 (encL d)]) (by kernel_rfl)
    ⟨hc, h0, rfl, fit_of (by omega) (by simp; omega), src_ob1 a, h1, trivial⟩
theorem itB2 {o : Ob} {es : List (List Dt)} (hc : Puk 119 [obA o] (boA false)) : Tri EX itB (itS o es) (.out 0) (itS o es) :=
  twalk (c := subC (bodyOf Tryz.f98) [1,1,0,0,0]) (s := itS o es) (an := [yF]) (ls := []) (ft := [1,4]) (nb := 2) (e := .out 0) (s' := itS o es) (ps := [Puk 119 [(obA o)] (boA false)]) (by kernel_rfl)
    ⟨hc, trivial⟩
theorem ix_pair (a d : Tr) : IxAt ((Tr.cons a d).ob.pair.map Ob.enc) 0 7 (encL a.ob) ∧ IxAt ((Tr.cons a d).ob.pair.map Ob.enc) 1 7 (encL d.ob) :=
  ⟨⟨by decide, congrArg some (enc_L a.ob), rfl⟩, ⟨by decide, congrArg some (enc_L d.ob), rfl⟩⟩
theorem it_loop : ∀ (l : List Tr) (es : List (List Dt)), es.length + l.length ≤ 10000 → Lps EX itB (itS (Tr.list l).ob es) (.out 0) (itS nilO (es ++ encOs l))
  | [], es, _ => by
    rw [show es ++ encOs [] = es from List.append_nil _]
    exact .stop (itB2 ((p_rIsCons nilO (by decide)).b (by decide))) (fun h => by cases h)
  | a :: l, es, h => by
    rw [List.length_cons] at h
    have ih := it_loop l (es ++ [encL a.ob]) (by rw [List.length_append, List.length_singleton]; omega)
    rw [List.append_assoc] at ih
    obtain ⟨h0, h1⟩ := ix_pair a (Tr.list l)
    exact .more (itB1 ((p_rIsCons (Tr.cons a (Tr.list l)).ob (by show 2 ≤ _; omega)).b (decide_eq_true ⟨rfl, rfl⟩)) h0 h1 (by omega)) ih
theorem nilO_wf : nilO.Wf := .mk _ (by decide) (by decide) (by decide) (by decide) (by decide) (by decide) (by decide) (by decide) (fun x hx => by cases hx)
/-- the items of a list -/
theorem p_rItems {l : List Tr} (hl : l.length ≤ 10000) : Puk 98 [trA (Tr.list l)] (.tup [rowA l, boA true]) := by
  have h := (it_loop l [] (by rw [List.length_nil]; omega)).tri
  have ht : Tri EX (.loop itB) (it0 (Tr.list l).ob) (.out 0) (itS nilO (encOs l)) := Tri.own0 4 35 7 (by show 4 < 22; omega) rfl h
  have hn := (p_rIsNil nilO_wf).b (yesD rfl)
  show Puk _ [obA (Tr.list l).ob] (.tup [.dt (.row (encOs l)), boA true])
  generalize (Tr.list l).ob = o at *
  generalize encOs l = es at *
  exact pwalk (an := [yT]) (ls := [.inv [1,4] 1 (.out 0) (itS nilO es)]) (ps := [Tri EX (.loop (subC (bodyOf Tryz.f98) [1,1,0,0,0])) (it0 o) (.out 0) (itS nilO es), Puk 59 [(obA nilO)] (boA true), (es.length) = (es.length)]) Tryz.func98 (by kernel_rfl) (by kernel_rfl) ⟨ht, hn, rfl, trivial⟩
theorem items_list : ∀ {x : Tr} {l : List Tr}, Rdr.items x = some l → x = Tr.list l
  | .num _, _, h => by cases h
  | .txt _, _, h => by cases h
  | .sym p n, l, h => by
    rw [Rdr.items] at h
    split at h
    · rename_i e
      cases h
      rw [e.1, e.2]
      rfl
    · cases h
  | .cons a d, l, h => by
    rw [Rdr.items] at h
    split at h
    · rename_i l' hd
      cases h
      rw [items_list hd]
      rfl
    · cases h
/- calls -/
theorem p_sym12 (n : List UInt8) : Puk 187 [stA n] (trA (.sym lispB n)) :=
  pwalk (an := [.av (syA lispB n), .av (trA (.sym lispB n))]) (ls := []) (ps := [Puk 51 [(stA n)] (syA lispB n), Puk 52 [(syA lispB n)] (trA (Tr.sym lispB n))]) Tryz.func187 (by kernel_rfl) (by kernel_rfl) ⟨p_lisp n, p_rSym lispB n, trivial⟩
theorem w_call {n : List UInt8} {l : List (List Dt)} {a d o : Ob} (h1 : Puk 187 [stA n] (obA a)) (h2 : Puk 126 [.dt (.row l)] (obA d)) (h3 : Puk 125 [obA a, obA d] (obA o)) : Puk 172 [stA n, .dt (.row l)] (obA o) :=
  pwalk (an := [.av (obA a), .av (obA d), .av (obA o)]) (ls := []) (ps := [Puk 187 [(stA n)] (obA a), Puk 126 [(.dt (.row l))] (obA d), Puk 125 [(obA a), (obA d)] (obA o)]) Tryz.func172 (by kernel_rfl) (by kernel_rfl) ⟨h1, h2, h3, trivial⟩
theorem p_call (n : List UInt8) {l : List Tr} (hl : l.length ≤ 10000) : Puk 172 [stA n, rowA l] (trA (Rdr.call n l)) :=
  w_call (p_sym12 n) (p_rList (by omega)) (p_rCons (Tr.sym lispB n).ob (Tr.list l).ob)
theorem p_rest12 (n : List UInt8) {l : List Tr} (hl : l.length ≤ 10000) : Puk 188 [stA n, rowA l] (trA (Rdr.call n l)) := by
  have h := p_call n hl
  show Puk _ [stA n, .dt (.row (encOs l))] (obA (Rdr.call n l).ob)
  have h : Puk _ [stA n, .dt (.row (encOs l))] (obA (Rdr.call n l).ob) := h
  generalize (Rdr.call n l).ob = o at *
  generalize encOs l = es at *
  exact pwalk (an := [.av (obA o)]) (ls := []) (ps := [Puk 172 [(stA n), (.dt (.row es))] (obA o)]) Tryz.func188 (by kernel_rfl) (by kernel_rfl) ⟨h, trivial⟩
theorem slc_os (x : Tr) (r : List Tr) : SlcOK (encOs (x :: r)) 7 1 ((encOs (x :: r)).length : Int) (encOs r) := by
  refine ⟨by decide, ?_, Int.le_refl _, ?_, .inr fun y hy => ?_⟩
  · simp only [encOs, List.map_cons, List.length_cons]; omega
  · rw [Int.toNat_natCast, List.take_length]; rfl
  · obtain ⟨t, _, rfl⟩ := List.mem_map.1 hy
    rfl
theorem ix_os0 (x : Tr) (r : List Tr) : IxAt (encOs (x :: r)) 0 7 (encL x.ob) := ⟨by decide, rfl, rfl⟩
theorem ix_os1 (x y : Tr) (r : List Tr) : IxAt (encOs (x :: y :: r)) 1 7 (encL y.ob) := ⟨by decide, rfl, rfl⟩
end Go.Proofs.YtendgffijciehaaGreatDoor
/- The expansions of the macros that the built-in text uses. -/
namespace Go.Proofs.YtendgffijciehaaGreatDoor
open Go.RowKit

abbrev expF : FuncId := 173
abbrev rstF : FuncId := 188
abbrev calF : FuncId := 172
abbrev symB (n : List UInt8) : Ob := ⟨2, [], [], lispB, n, [], []⟩
theorem w_app {es rs : List (List Dt)} {a b o : Ob} (n0 : es.length ≠ 0) (n1 : es.length ≠ 1) (h0 : IxAt es 0 7 (encL a)) (hs : SlcOK es 7 1 (es.length : Int) rs) (hr : Puk rstF [stA [97, 112, 112, 101, 110, 100], .dt (.row rs)] (obA b)) (hc : Puk calF [stA [98, 105, 110, 97, 114, 121, 45, 97, 112, 112, 101, 110, 100], .dt (.row [encL a, encL b])] (obA o)) : Puk expF [stA [97, 112, 112, 101, 110, 100], .dt (.row es)] (.tup [obA o, boA true]) :=
  pwalk (an := [.av (inA es.length), .no, .no, .no, yF, yF, .no, .av (.pin ((encL a).map .dt)), .av (.dt (.row rs)), .av (obA b), .av (obA o)]) (ls := []) (ps := [(vi ↑es.length) = (vi ↑es.length), Bn .eql 3 (.tmp 29) (.const (vi 0)) (vi ↑es.length) (vi 0) bF, Bn .eql 3 (.tmp 34) (.const (vi 1)) (vi ↑es.length) (vi 1) bF, IxAt es 0 7 (encL a), SlcOK es 7 ((some 1).getD 0) (none.getD ↑es.length) rs, (none : Option Int) = none ∨ (none : Option Int) = none, Puk 188 [(stA [97, 112, 112, 101, 110, 100]), (.dt (.row rs))] (obA b), Puk 172 [(stA [98, 105, 110, 97, 114, 121, 45, 97, 112, 112, 101, 110, 100]), (.dt (.row [encL a, encL b]))] (obA o)]) Tryz.func173 (by kernel_rfl) (by kernel_rfl) ⟨rfl, bin_ieq (decide_eq_false (by omega)), bin_ieq (decide_eq_false (by omega)), h0, hs, .inl rfl, hr, hc, trivial⟩
theorem w_and {es rs : List (List Dt)} {a b o : Ob} (n0 : es.length ≠ 0) (n1 : es.length ≠ 1) (h0 : IxAt es 0 7 (encL a)) (hs : SlcOK es 7 1 (es.length : Int) rs) (hr : Puk rstF [stA [97, 110, 100], .dt (.row rs)] (obA b)) (hc : Puk calF [stA [105, 102], .dt (.row [encL a, encL b, encL nilO])] (obA o)) : Puk expF [stA [97, 110, 100], .dt (.row es)] (.tup [obA o, boA true]) :=
  pwalk (an := [.av (inA es.length), .no, .no, .no, .no, yF, yF, .no, .av (.pin ((encL a).map .dt)), .av (.dt (.row rs)), .av (obA b), .av (obA nilO), .av (obA o)]) (ls := []) (ps := [(vi ↑es.length) = (vi ↑es.length), Bn .eql 3 (.tmp 62) (.const (vi 0)) (vi ↑es.length) (vi 0) bF, Bn .eql 3 (.tmp 67) (.const (vi 1)) (vi ↑es.length) (vi 1) bF, IxAt es 0 7 (encL a), SlcOK es 7 ((some 1).getD 0) (none.getD ↑es.length) rs, (none : Option Int) = none ∨ (none : Option Int) = none, Puk 188 [(stA [97, 110, 100]), (.dt (.row rs))] (obA b), Puk 17 [] (obA nilO), Puk 172 [(stA [105, 102]), (.dt (.row [encL a, encL b, [(.val (vi 2)), (.val (str nilO.num)), (.val (str nilO.den)), (.val (str nilO.sp)), (.val (str nilO.sn)), (.val (str nilO.text)), (.row (List.map Ob.enc nilO.pair))]]))] (obA o)]) Tryz.func173 (by kernel_rfl) (by kernel_rfl) ⟨rfl, bin_ieq (decide_eq_false (by omega)), bin_ieq (decide_eq_false (by omega)), h0, hs, .inl rfl, hr, p_rNil, hc, trivial⟩
theorem w_or {es rs : List (List Dt)} {a b o : Ob} (n0 : es.length ≠ 0) (n1 : es.length ≠ 1) (h0 : IxAt es 0 7 (encL a)) (hs : SlcOK es 7 1 (es.length : Int) rs) (hr : Puk rstF [stA [111, 114], .dt (.row rs)] (obA b)) (hc : Puk calF [stA [105, 102], .dt (.row [encL a, encL a, encL b])] (obA o)) : Puk expF [stA [111, 114], .dt (.row es)] (.tup [obA o, boA true]) :=
  pwalk (an := [.av (inA es.length), .no, .no, .no, .no, .no, yF, yF, .no, .av (.pin ((encL a).map .dt)), .av (.pin ((encL a).map .dt)), .av (.dt (.row rs)), .av (obA b), .av (obA o)]) (ls := []) (ps := [(vi ↑es.length) = (vi ↑es.length), Bn .eql 3 (.tmp 62) (.const (vi 0)) (vi ↑es.length) (vi 0) bF, Bn .eql 3 (.tmp 67) (.const (vi 1)) (vi ↑es.length) (vi 1) bF, IxAt es 0 7 (encL a), IxAt es 0 7 (encL a), SlcOK es 7 ((some 1).getD 0) (none.getD ↑es.length) rs, (none : Option Int) = none ∨ (none : Option Int) = none, Puk 188 [(stA [111, 114]), (.dt (.row rs))] (obA b), Puk 172 [(stA [105, 102]), (.dt (.row [encL a, encL a, encL b]))] (obA o)]) Tryz.func173 (by kernel_rfl) (by kernel_rfl) ⟨rfl, bin_ieq (decide_eq_false (by omega)), bin_ieq (decide_eq_false (by omega)), h0, h0, hs, .inl rfl, hr, hc, trivial⟩
theorem w_lst {es rs : List (List Dt)} {a b o : Ob} (n0 : es.length ≠ 0) (h0 : IxAt es 0 7 (encL a)) (hs : SlcOK es 7 1 (es.length : Int) rs) (hr : Puk rstF [stA [108, 105, 115, 116], .dt (.row rs)] (obA b)) (hc : Puk calF [stA [99, 111, 110, 115], .dt (.row [encL a, encL b])] (obA o)) : Puk expF [stA [108, 105, 115, 116], .dt (.row es)] (.tup [obA o, boA true]) :=
  pwalk (an := [.av (inA es.length), .no, yF, .av (.pin ((encL a).map .dt)), .av (.dt (.row rs)), .av (obA b), .av (obA o)]) (ls := []) (ps := [(vi ↑es.length) = (vi ↑es.length), Bn .eql 3 (.tmp 14) (.const (vi 0)) (vi ↑es.length) (vi 0) bF, IxAt es 0 7 (encL a), SlcOK es 7 ((some 1).getD 0) (none.getD ↑es.length) rs, (none : Option Int) = none ∨ (none : Option Int) = none, Puk 188 [(stA [108, 105, 115, 116]), (.dt (.row rs))] (obA b), Puk 172 [(stA [99, 111, 110, 115]), (.dt (.row [encL a, encL b]))] (obA o)]) Tryz.func173 (by kernel_rfl) (by kernel_rfl) ⟨rfl, bin_ieq (decide_eq_false (by omega)), h0, hs, .inl rfl, hr, hc, trivial⟩
theorem w_lst0 : Puk expF [stA [108, 105, 115, 116], .dt (.row [])] (.tup [obA nilO, boA true]) :=
  pwalk (an := [.no, .no, .no, .av (obA nilO)]) (ls := []) (ps := [Puk 17 [] (obA nilO)]) Tryz.func173 (by kernel_rfl) (by kernel_rfl) ⟨p_rNil, trivial⟩
theorem p_TruthT : Puk 189 [boA true] (obA tO) := pwalk (an := [.av (obA tO)]) (ls := []) (ps := [Puk 99 [] (obA tO)]) Tryz.func189 (by kernel_rfl) (by kernel_rfl) ⟨p_rT, trivial⟩
theorem p_TruthF : Puk 189 [boA false] (obA nilO) := pwalk (an := [.av (obA nilO)]) (ls := []) (ps := [Puk 17 [] (obA nilO)]) Tryz.func189 (by kernel_rfl) (by kernel_rfl) ⟨p_rNil, trivial⟩
theorem w_app0 : Puk expF [stA [97, 112, 112, 101, 110, 100], .dt (.row [])] (.tup [obA nilO, boA true]) :=
  pwalk (an := [.no, .no, .no, .no, .no, .av (obA nilO), .no]) (ls := []) (ps := [Puk 17 [] (obA nilO)]) Tryz.func173 (by kernel_rfl) (by kernel_rfl) ⟨p_rNil, trivial⟩
theorem w_and0 : Puk expF [stA [97, 110, 100], .dt (.row [])] (.tup [obA tO, boA true]) :=
  pwalk (an := [.no, .no, .no, .no, .no, .no, .no, .av (obA tO)]) (ls := []) (ps := [Puk 189 [(boA true)] (obA tO)]) Tryz.func173 (by kernel_rfl) (by kernel_rfl) ⟨p_TruthT, trivial⟩
theorem w_or0 : Puk expF [stA [111, 114], .dt (.row [])] (.tup [obA nilO, boA true]) :=
  pwalk (an := [.no, .no, .no, .no, .no, .no, .no, .no, .av (obA nilO)]) (ls := []) (ps := [Puk 189 [(boA false)] (obA nilO)]) Tryz.func173 (by kernel_rfl) (by kernel_rfl) ⟨p_TruthF, trivial⟩
theorem w_app1 (a : Ob) : Puk expF [stA [97, 112, 112, 101, 110, 100], .dt (.row [encL a])] (.tup [obA a, boA true]) :=
  pwalk (an := [.no, .no, .no, .no, .no, .no, .no]) (ls := []) (ps := []) Tryz.func173 (by kernel_rfl) (by kernel_rfl) trivial
theorem w_and1 (a : Ob) : Puk expF [stA [97, 110, 100], .dt (.row [encL a])] (.tup [obA a, boA true]) :=
  pwalk (an := [.no, .no, .no, .no, .no, .no, .no, .no]) (ls := []) (ps := []) Tryz.func173 (by kernel_rfl) (by kernel_rfl) trivial
theorem w_or1 (a : Ob) : Puk expF [stA [111, 114], .dt (.row [encL a])] (.tup [obA a, boA true]) :=
  pwalk (an := [.no, .no, .no, .no, .no, .no, .no, .no, .no]) (ls := []) (ps := []) Tryz.func173 (by kernel_rfl) (by kernel_rfl) trivial
theorem w_cond {es rs : List (List Dt)} {x a b c o : Ob} (n0 : es.length ≠ 0) (h0 : IxAt es 0 7 (encL x)) (hi : Puk 98 [obA x] (.tup [.dt (.row [encL a, encL b]), boA true])) (hs : SlcOK es 7 1 (es.length : Int) rs) (hr : Puk rstF [stA [99, 111, 110, 100], .dt (.row rs)] (obA c)) (hc : Puk calF [stA [105, 102], .dt (.row [encL a, encL b, encL c])] (obA o)) : Puk expF [stA [99, 111, 110, 100], .dt (.row es)] (.tup [obA o, boA true]) :=
  pwalk (an := [.av (inA es.length), .no, .no, .no, .no, .no, .no, yF, .av (.pin ((encL x).map .dt)), .av (.tup [.dt (.row [encL a, encL b]), boA true]), .no, .no, .no, .no, .av (.dt (.row rs)), .av (obA c), .av (obA o)]) (ls := []) (ps := [(vi ↑es.length) = (vi ↑es.length), Bn .eql 3 (.tmp 98) (.const (vi 0)) (vi ↑es.length) (vi 0) bF, IxAt es 0 7 (encL x), Puk 98 [(obA x)] (.tup [(.dt (.row [encL a, encL b])), (boA true)]), SlcOK es 7 ((some 1).getD 0) (none.getD ↑es.length) rs, (none : Option Int) = none ∨ (none : Option Int) = none, Puk 188 [(stA [99, 111, 110, 100]), (.dt (.row rs))] (obA c), Puk 172 [(stA [105, 102]), (.dt (.row [encL a, encL b, encL c]))] (obA o)]) Tryz.func173 (by kernel_rfl) (by kernel_rfl) ⟨rfl, bin_ieq (decide_eq_false (by omega)), h0, hi, hs, .inl rfl, hr, hc, trivial⟩
theorem w_cond0 : Puk expF [stA [99, 111, 110, 100], .dt (.row [])] (.tup [obA nilO, boA true]) :=
  pwalk (an := [.no, .no, .no, .no, .no, .no, .no, .no, .av (obA nilO)]) (ls := []) (ps := [Puk 17 [] (obA nilO)]) Tryz.func173 (by kernel_rfl) (by kernel_rfl) ⟨p_rNil, trivial⟩
theorem w_sum2 {a b o : Ob} (hc : Puk calF [stA [98, 105, 110, 97, 114, 121, 45, 43], .dt (.row [encL a, encL b])] (obA o)) : Puk 190 [stA [43], stA [98, 105, 110, 97, 114, 121, 45, 43], inA 0, .dt (.row [encL a, encL b])] (obA o) :=
  pwalk (an := [.no, .no, .no, .no, .no, .no, .av (obA o)]) (ls := []) (ps := [Puk 172 [(stA [98, 105, 110, 97, 114, 121, 45, 43]), (.dt (.row [encL a, encL b]))] (obA o)]) Tryz.func190 (by kernel_rfl) (by kernel_rfl) ⟨hc, trivial⟩
theorem w_sum3 {es rs : List (List Dt)} {a b o : Ob} (n0 : 3 ≤ es.length) (h0 : IxAt es 0 7 (encL a)) (hs : SlcOK es 7 1 (es.length : Int) rs) (hr : Puk rstF [stA [43], .dt (.row rs)] (obA b)) (hc : Puk calF [stA [98, 105, 110, 97, 114, 121, 45, 43], .dt (.row [encL a, encL b])] (obA o)) : Puk 190 [stA [43], stA [98, 105, 110, 97, 114, 121, 45, 43], inA 0, .dt (.row es)] (obA o) :=
  pwalk (an := [.av (inA es.length), yF, yF, yF, .av (.pin ((encL a).map .dt)), .av (.dt (.row rs)), .av (obA b), .av (obA o)]) (ls := []) (ps := [(vi ↑es.length) = (vi ↑es.length), Bn .eql 3 (.tmp 10) (.const (vi 0)) (vi ↑es.length) (vi 0) bF, Bn .eql 3 (.tmp 10) (.const (vi 1)) (vi ↑es.length) (vi 1) bF, Bn .eql 3 (.tmp 10) (.const (vi 2)) (vi ↑es.length) (vi 2) bF, IxAt es 0 7 (encL a), SlcOK es 7 ((some 1).getD 0) (none.getD ↑es.length) rs, (none : Option Int) = none ∨ (none : Option Int) = none, Puk 188 [(stA [43]), (.dt (.row rs))] (obA b), Puk 172 [(stA [98, 105, 110, 97, 114, 121, 45, 43]), (.dt (.row [encL a, encL b]))] (obA o)]) Tryz.func190 (by kernel_rfl) (by kernel_rfl) ⟨rfl, bin_ieq (decide_eq_false (by omega)), bin_ieq (decide_eq_false (by omega)), bin_ieq (decide_eq_false (by omega)), h0, hs, .inl rfl, hr, hc, trivial⟩
theorem w_plus {es : List (List Dt)} {o : Ob} (h : Puk 190 [stA [43], stA [98, 105, 110, 97, 114, 121, 45, 43], inA 0, .dt (.row es)] (obA o)) : Puk expF [stA [43], .dt (.row es)] (.tup [obA o, boA true]) :=
  pwalk (an := [.av (inA es.length), .no, .no, .no, .no, .no, .no, .no, .av (obA o)]) (ls := []) (ps := [(vi ↑es.length) = (vi ↑es.length), Puk 190 [(stA [43]), (stA [98, 105, 110, 97, 114, 121, 45, 43]), (inA 0), (.dt (.row es))] (obA o)]) Tryz.func173 (by kernel_rfl) (by kernel_rfl) ⟨rfl, h, trivial⟩
/-- an expansion -/
theorem p_expand {n : List UInt8} {l : List Tr} {o : Tr} (h : Rdr.expand n l = some o) (hl : l.length ≤ 1000) : Puk expF [stA n, rowA l] (.tup [trA o, boA true]) := by
  have hln : ∀ l : List Tr, (encOs l).length = l.length := fun l => List.length_map ..
  unfold Rdr.expand at h
  split at h
  · rename_i e; subst e
    split at h
    · cases h; exact w_lst0
    · rename_i x r
      cases h
      rw [List.length_cons] at hl
      exact w_lst (es := encOs (x :: r)) (rs := encOs r) (by rw [hln, List.length_cons]; omega) (ix_os0 x r) (slc_os x r) (p_rest12 _ (by omega)) (p_call _ (l := [x, Rdr.call [108, 105, 115, 116] r]) (by show 2 ≤ 10000; omega))
  split at h
  · rename_i e; subst e
    split at h
    · cases h; exact w_app0
    · cases h; exact w_app1 _
    · rename_i x r hne
      cases h
      rw [List.length_cons] at hl
      have : r.length ≠ 0 := fun e => by
        obtain rfl := List.eq_nil_of_length_eq_zero e
        exact hne rfl
      exact w_app (es := encOs (x :: r)) (rs := encOs r) (by rw [hln, List.length_cons]; omega) (by rw [hln, List.length_cons]; omega) (ix_os0 x r) (slc_os x r) (p_rest12 _ (by omega)) (p_call _ (l := [x, Rdr.call [97, 112, 112, 101, 110, 100] r]) (by show 2 ≤ 10000; omega))
  split at h
  · rename_i e; subst e
    split at h
    · cases h; exact w_and0
    · cases h; exact w_and1 _
    · rename_i x r hne
      cases h
      rw [List.length_cons] at hl
      have : r.length ≠ 0 := fun e => by
        obtain rfl := List.eq_nil_of_length_eq_zero e
        exact hne rfl
      exact w_and (es := encOs (x :: r)) (rs := encOs r) (by rw [hln, List.length_cons]; omega) (by rw [hln, List.length_cons]; omega) (ix_os0 x r) (slc_os x r) (p_rest12 _ (by omega)) (p_call _ (l := [x, Rdr.call [97, 110, 100] r, Rdr.nilX]) (by show 3 ≤ 10000; omega))
  split at h
  · rename_i e; subst e
    split at h
    · cases h; exact w_or0
    · cases h; exact w_or1 _
    · rename_i x r hne
      cases h
      rw [List.length_cons] at hl
      have : r.length ≠ 0 := fun e => by
        obtain rfl := List.eq_nil_of_length_eq_zero e
        exact hne rfl
      exact w_or (es := encOs (x :: r)) (rs := encOs r) (by rw [hln, List.length_cons]; omega) (by rw [hln, List.length_cons]; omega) (ix_os0 x r) (slc_os x r) (p_rest12 _ (by omega)) (p_call _ (l := [x, x, Rdr.call [111, 114] r]) (by show 3 ≤ 10000; omega))
  split at h
  · rename_i e; subst e
    split at h
    · cases h; exact w_cond0
    · rename_i x r
      split at h
      · rename_i a c hi
        cases h
        rw [List.length_cons] at hl
        have hx := items_list hi
        subst hx
        exact w_cond (es := encOs (Tr.list [a, c] :: r)) (rs := encOs r) (by rw [hln, List.length_cons]; omega) (ix_os0 _ r) (p_rItems (l := [a, c]) (by show 2 ≤ 10000; omega)) (slc_os _ r) (p_rest12 _ (by omega)) (p_call _ (l := [a, c, Rdr.call [99, 111, 110, 100] r]) (by show 3 ≤ 10000; omega))
      · cases h
  split at h
  · rename_i e; subst e
    split at h
    · rename_i x y
      cases h
      exact w_plus (w_sum2 (p_call _ (l := [x, y]) (by show 2 ≤ 10000; omega)))
    · rename_i x y z r
      cases h
      simp only [List.length_cons] at hl
      exact w_plus (w_sum3 (es := encOs (x :: y :: z :: r)) (rs := encOs (y :: z :: r)) (by rw [hln]; simp only [List.length_cons]; omega) (ix_os0 x _) (slc_os x _) (p_rest12 _ (by simp only [List.length_cons]; omega)) (p_call _ (l := [x, Rdr.call [43] (y :: z :: r)]) (by show 2 ≤ 10000; omega)))
    · cases h
  · cases h
theorem w_bi1 : Puk 146 [syA lispB [108, 105, 115, 116]] (boA true) := pwalk (an := [.no, .no]) (ls := []) (ps := []) Tryz.func146 (by kernel_rfl) (by kernel_rfl) trivial
theorem w_bi3 : Puk 146 [syA lispB [97, 110, 100]] (boA true) := pwalk (an := [.no, .no, .no, .no]) (ls := []) (ps := []) Tryz.func146 (by kernel_rfl) (by kernel_rfl) trivial
theorem w_bi4 : Puk 146 [syA lispB [111, 114]] (boA true) := pwalk (an := [.no, .no, .no, .no, .no]) (ls := []) (ps := []) Tryz.func146 (by kernel_rfl) (by kernel_rfl) trivial
theorem w_bi5 : Puk 146 [syA lispB [99, 111, 110, 100]] (boA true) := pwalk (an := [.no, .no, .no, .no, .no, .no]) (ls := []) (ps := []) Tryz.func146 (by kernel_rfl) (by kernel_rfl) trivial
theorem w_bi6 : Puk 146 [syA lispB [43]] (boA true) := pwalk (an := [.no, .no, .no, .no, .no, .no, .no]) (ls := []) (ps := []) Tryz.func146 (by kernel_rfl) (by kernel_rfl) trivial
theorem w_bi13 : Puk 146 [syA lispB [97, 112, 112, 101, 110, 100]] (boA true) := pwalk (an := [.no, .no, .no, .no, .no, .no, .no, .no, .no, .no, .no, .no, .no, .no]) (ls := []) (ps := []) Tryz.func146 (by kernel_rfl) (by kernel_rfl) trivial
theorem p_biF {n : List UInt8} (h : n ∉ Rdr.macros) : Puk 146 [syA lispB n] (boA false) := by
  have ne : ∀ m ∈ Rdr.macros, decide (n = m) = false := fun m hm => decide_eq_false fun e => h (e ▸ hm)
  exact pwalk (an := [.no, yF, yF, yF, yF, yF, yF, yF, yF, yF, yF, yF, yF, yF]) (ls := []) (ps := [Bn .eql 9 (.tmp 7) (.const (Value.string { data := #[108, 105, 115, 116] : ByteArray })) (str n) (str [108, 105, 115, 116]) bF, Bn .eql 9 (.tmp 7) (.const (Value.string { data := #[108, 105, 115, 116, 42] : ByteArray })) (str n) (str [108, 105, 115, 116, 42]) bF, Bn .eql 9 (.tmp 7) (.const (Value.string { data := #[97, 110, 100] : ByteArray })) (str n) (str [97, 110, 100]) bF, Bn .eql 9 (.tmp 7) (.const (Value.string { data := #[111, 114] : ByteArray })) (str n) (str [111, 114]) bF, Bn .eql 9 (.tmp 7) (.const (Value.string { data := #[99, 111, 110, 100] : ByteArray })) (str n) (str [99, 111, 110, 100]) bF, Bn .eql 9 (.tmp 7) (.const (Value.string { data := #[43] : ByteArray })) (str n) (str [43]) bF, Bn .eql 9 (.tmp 7) (.const (Value.string { data := #[42] : ByteArray })) (str n) (str [42]) bF, Bn .eql 9 (.tmp 7) (.const (Value.string { data := #[45] : ByteArray })) (str n) (str [45]) bF, Bn .eql 9 (.tmp 7) (.const (Value.string { data := #[47] : ByteArray })) (str n) (str [47]) bF, Bn .eql 9 (.tmp 7) (.const (Value.string { data := #[60, 61] : ByteArray })) (str n) (str [60, 61]) bF, Bn .eql 9 (.tmp 7) (.const (Value.string { data := #[62] : ByteArray })) (str n) (str [62]) bF, Bn .eql 9 (.tmp 7) (.const (Value.string { data := #[62, 61] : ByteArray })) (str n) (str [62, 61]) bF, Bn .eql 9 (.tmp 7) (.const (Value.string { data := #[97, 112, 112, 101, 110, 100] : ByteArray })) (str n) (str [97, 112, 112, 101, 110, 100]) bF]) Tryz.func146 (by kernel_rfl) (by kernel_rfl) ⟨bin_seq (ne _ (by decide)), bin_seq (ne _ (by decide)), bin_seq (ne _ (by decide)), bin_seq (ne _ (by decide)), bin_seq (ne _ (by decide)), bin_seq (ne _ (by decide)), bin_seq (ne _ (by decide)), bin_seq (ne _ (by decide)), bin_seq (ne _ (by decide)), bin_seq (ne _ (by decide)), bin_seq (ne _ (by decide)), bin_seq (ne _ (by decide)), bin_seq (ne _ (by decide)), trivial⟩
end Go.Proofs.YtendgffijciehaaGreatDoor
