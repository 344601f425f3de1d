/- Ordinals: the text of an ordinal; strings joined and compared. -/
import Derived.Test.YtgphkgmhcmffnaaGreatDoorQB
import Derived.Test.YtgphkgmhcmffnaaGreatDoorSeed
import Derived.Test.YtgphkgmhcmffnaaGreatDoorMkA
namespace Go.Proofs.YtgphkgmhcmffnaaGreatDoor
open Go.RowKit

theorem strs_app (a b : List UInt8) : (⟨a.toArray⟩ : ByteArray) ++ ⟨b.toArray⟩ = ⟨(a ++ b).toArray⟩ := by
  apply ByteArray.ext
  rw [ByteArray.data_append]
  simp
theorem bin_strs {P : Program} {t : TypeId} {x y : Operand} {a b : List UInt8} (h : a.length + b.length ≤ 9223372036854775807) : BinIs P .add t x y (str a) (str b) (str (a ++ b)) := by
  have := bin_cat (P := P) (t := t) (x := x) (y := y) (a := ⟨a.toArray⟩) (b := ⟨b.toArray⟩) (by
    show ((a.toArray.size + b.toArray.size : Nat) : Int) ≤ 9223372036854775807
    simp only [List.size_toArray]
    omega)
  rw [strs_app] at this
  exact this
theorem toList_str (a : List UInt8) : (⟨a.toArray⟩ : ByteArray).toList = a := by
  rw [Lib.toList_data]
theorem eqD {α : Type} [BEq α] [LawfulBEq α] [DecidableEq α] (a b : α) : (a == b) = decide (a = b) := by
  by_cases h : a = b <;> simp [h]
theorem bin_seq {P : Program} {t : TypeId} {x y : Operand} {a b : List UInt8} {r : Bool} (h : decide (a = b) = r) : BinIs P .eql t x y (str a) (str b) (.bool r) := by
  refine sbin_is ?_
  show some (Value.bool ((⟨a.toArray⟩ : ByteArray).toList == (⟨b.toArray⟩ : ByteArray).toList)) = _
  rw [toList_str, toList_str, ← h, eqD a b]
theorem bin_sne {P : Program} {t : TypeId} {x y : Operand} {a b : List UInt8} {r : Bool} (h : decide (a = b) = !r) : BinIs P .neq t x y (str a) (str b) (.bool r) := by
  refine sbin_is ?_
  show some (Value.bool !((⟨a.toArray⟩ : ByteArray).toList == (⟨b.toArray⟩ : ByteArray).toList)) = _
  rw [toList_str, toList_str, eqD a b, h, Bool.not_not]
theorem bin_ieq {P : Program} {t : TypeId} {x y : Operand} {k : IntKind} {a b : Int} {r : Bool} (h : decide (a = b) = r) : BinIs P .eql t x y (.int k a) (.int k b) (.bool r) := by
  refine sbin_is ?_
  simp only [sbin, decide_true]
  rw [eqD a b, h]
namespace Tr
abbrev nm (t : Tr) : List UInt8 := t.ob.num
def fmt : Tr → List UInt8
  | .cons (.cons e c) r => (([119] ++ (if e.inf then ([94, 40] ++ fmt e) ++ [41] else if e.nm = [49] then [] else [94] ++ e.nm)) ++ (if c.nm = [49] then [] else [42] ++ c.nm)) ++ (if r.isZ then [] else [32, 43, 32] ++ fmt r)
  | t => t.nm
theorem fmt_fin {t : Tr} (h : t.inf = false) : fmt t = t.nm := by
  unfold fmt
  split
  · cases h
  · rfl
theorem fmt_inf (e c r : Tr) : fmt (.cons (.cons e c) r) = (([119] ++ (if e.inf then ([94, 40] ++ fmt e) ++ [41] else if e.nm = [49] then [] else [94] ++ e.nm)) ++ (if c.nm = [49] then [] else [42] ++ c.nm)) ++ (if r.isZ then [] else [32, 43, 32] ++ fmt r) := by rw [fmt]
theorem nm_len {m : Nat} {t : Tr} (h : t.Ok m) : t.nm.length ≤ m + 1 := by
  cases t with
  | num q => exact Rb.nlen h
  | txt q => exact Nat.zero_le _
  | sym p q => exact Nat.zero_le _
  | cons a d => exact Nat.zero_le _
theorem fmt_len {m : Nat} : ∀ t : Tr, t.Ok m → (fmt t).length ≤ (m + 10) * t.size * 2 := by
  intro t
  induction t using sizeInd with
  | step t ih =>
    intro ht
    rcases fin_or t with f | ⟨e, c, r, rfl⟩
    · rw [fmt_fin f]
      have := nm_len ht
      have h2 := size_pos t
      have : (m + 10) * 1 ≤ (m + 10) * t.size := Nat.mul_le_mul_left _ h2
      omega
    · have sz := size_e e c r
      have he := ih e sz.1 ht.1.1
      have hr := ih r sz.2.2 ht.2
      have n1 := nm_len ht.1.1
      have n2 := nm_len ht.1.2
      have hs : (Tr.cons (.cons e c) r).size = e.size + c.size + 1 + r.size + 1 := rfl
      rw [fmt_inf, hs]
      have hc := size_pos c
      have e1 : (m + 10) * (e.size + c.size + 1 + r.size + 1) * 2 = (m + 10) * e.size * 2 + (m + 10) * c.size * 2 + (m + 10) * r.size * 2 + (m + 10) * 4 := by
        simp only [Nat.mul_add, Nat.add_mul]; omega
      rw [e1]
      have hcm : (m + 10) * 1 ≤ (m + 10) * c.size := Nat.mul_le_mul_left _ hc
      simp only [List.length_append, List.length_cons, List.length_nil]
      split <;> split <;> split <;> (try split) <;> simp only [List.length_append, List.length_cons, List.length_nil] <;> omega
end Tr
theorem Puk.s {f : FuncId} {args : List AV} {a b : List UInt8} (h : Puk f args (stA a)) (e : a = b) : Puk f args (stA b) := e ▸ h
end Go.Proofs.YtgphkgmhcmffnaaGreatDoor
/- Ordinals: Format of both texts. -/
namespace Go.Proofs.YtgphkgmhcmffnaaGreatDoor
open Go.RowKit

theorem p_fromInt1 : Puk 100 [inA 1] (stA [49]) :=
  ⟨fnm Tryz.func100 rfl (by kernel_rfl), fun ok w vs ht hv => by
    obtain rfl := hv.one_val
    exact (fromInt_any 1 w ht (by decide) (by decide)).mono fun _ _ h => ⟨_, h.1, h.2, by rw [show Lib.itoa 1 = [49] by decide +kernel]; exact .val _⟩⟩
theorem p_rOne (t : Tr) (h : t.isNat = true ∨ t.inf = true) : Puk 70 [trA t] (boA (!t.inf && decide (t.nm = [49]))) := by
  rcases h with h | h
  · obtain ⟨f, n, rfl⟩ := Tr.isNat_fin h
    have hd : Lib.itoa (((n : Int) : Rat).den : Int) = [49] := den_one.2 (Rat.den_intCast _)
    rw [f]
    by_cases h1 : Lib.itoa ((n : Int) : Rat).num = [49]
    · refine Puk.b (a := true) ?_ (by rw [show decide ((Tr.num ((n : Int) : Rat)).nm = [49]) = true from decide_eq_true h1]; rfl)
      exact pwalk (an := [some (boA true), some (boA true), some (boA true)]) (ls := []) (ps := [BinIs Tryz.prog BinOp.eql 3 (Operand.tmp 4) (Operand.const (Value.int IntKind.i64 1)) (Value.int IntKind.i64 ((Tr.num ↑↑n).ob.kind)) (Value.int IntKind.i64 1) (Value.bool true), BinIs Tryz.prog BinOp.eql 9 (Operand.tmp 8) (Operand.const (Value.string { data := #[49] })) (Value.string ({ data := (Tr.num ↑↑n).ob.num.toArray })) (Value.string ({ data := #[49] })) (Value.bool true), BinIs Tryz.prog BinOp.eql 9 (Operand.tmp 13) (Operand.const (Value.string { data := #[49] })) (Value.string ({ data := (Tr.num ↑↑n).ob.den.toArray })) (Value.string ({ data := #[49] })) (Value.bool true)]) Tryz.func70 (by kernel_rfl) (by kernel_rfl) ⟨bin_ieq rfl, bin_seq (decide_eq_true h1), bin_seq (decide_eq_true hd), trivial⟩
    · refine Puk.b (a := false) ?_ (by rw [show decide ((Tr.num ((n : Int) : Rat)).nm = [49]) = false from decide_eq_false h1]; rfl)
      exact pwalk (an := [some (boA true), some (boA false)]) (ls := []) (ps := [BinIs Tryz.prog BinOp.eql 3 (Operand.tmp 4) (Operand.const (Value.int IntKind.i64 1)) (Value.int IntKind.i64 ((Tr.num ↑↑n).ob.kind)) (Value.int IntKind.i64 1) (Value.bool true), BinIs Tryz.prog BinOp.eql 9 (Operand.tmp 8) (Operand.const (Value.string { data := #[49] })) (Value.string ({ data := (Tr.num ↑↑n).ob.num.toArray })) (Value.string ({ data := #[49] })) (Value.bool false)]) Tryz.func70 (by kernel_rfl) (by kernel_rfl) ⟨bin_ieq rfl, bin_seq (decide_eq_false h1), trivial⟩
  · obtain ⟨e, c, r, rfl⟩ := Tr.inf_iff.1 h
    exact pwalk (an := [some (boA false)]) (ls := []) (ps := [BinIs Tryz.prog BinOp.eql 3 (Operand.tmp 4) (Operand.const (Value.int IntKind.i64 1)) (Value.int IntKind.i64 (((e.cons c).cons r).ob.kind)) (Value.int IntKind.i64 1) (Value.bool false)]) Tryz.func70 (by kernel_rfl) (by kernel_rfl) ⟨bin_ieq rfl, trivial⟩
theorem p_oFmt : ∀ (N : Nat) (t : Tr), t.size ≤ N → t.ov = true → Puk 69 [trA t] (stA (Tr.fmt t)) := by
  intro N
  induction N with
  | zero => intro t h; have := Tr.size_pos t; omega
  | succ N ih =>
    intro t hN vt
    have ok := Tr.ov_ok vt
    rcases Tr.fin_or t with f | ⟨e, c, r, rfl⟩
    · rw [Tr.fmt_fin f]
      exact pwalk (an := [some (boA false)]) (ls := []) (ps := [Puk 90 [(obA t.ob)] (boA false)]) Tryz.func69 (by kernel_rfl) (by kernel_rfl) ⟨(p_oInf t).b f, trivial⟩
    · have sz := Tr.size_e e c r
      have hp := Tr.ov_parts vt
      have hn := Tr.nf_parts (Tr.ov_nf vt)
      have fe := ih e (by omega) hp.1
      have fr := ih r (by omega) hp.2.2
      have le := Tr.fmt_len e ok.1.1
      have lr := Tr.fmt_len r ok.2
      have l3 : (Tr.cons (.cons e c) r).size ≤ 3000 := (Tr.valid_iff.1 (Tr.ov_valid vt)).1
      have me : (101 + 10) * e.size * 2 ≤ 700000 := by omega
      have mr : (101 + 10) * r.size * 2 ≤ 700000 := by omega
      have ke : e.ob.num.length ≤ 102 := Tr.nm_len ok.1.1
      have kc : c.ob.num.length ≤ 102 := Tr.nm_len ok.1.2
      have ke' : e.nm.length ≤ 102 := ke
      have kc' : c.nm.length ≤ 102 := kc
      rw [Tr.fmt_inf]
      cases ie : e.inf with
      | true =>
        by_cases nc : c.nm = [49]
        · cases zr : r.isZ with
          | true => exact Puk.s (a := ([119] ++ (([94, 40] ++ Tr.fmt e) ++ [41]))) (pwalk (an := [some (boA true), some (trA e), some (boA true), some (stA (Tr.fmt e)), some (stA ([94, 40] ++ Tr.fmt e)), some (stA (([94, 40] ++ Tr.fmt e) ++ [41])), some (stA ([119] ++ (([94, 40] ++ Tr.fmt e) ++ [41]))), some (trA c), some (stA [49]), some (boA false), some (trA r), some (boA true)]) (ls := []) (ps := [Puk 90 [(obA (((e.cons c).cons r).ob))] (boA true), Puk 77 [(obA (((e.cons c).cons r).ob))] (obA e.ob), Puk 90 [(obA e.ob)] (boA true), Puk 69 [(obA e.ob)] (.dt (.val (Value.string ({ data := e.fmt.toArray })))), BinIs Tryz.prog BinOp.add 9 (Operand.const (Value.string { data := #[94, 40] })) (Operand.tmp 18) (Value.string ({ data := #[94, 40] })) (Value.string ({ data := e.fmt.toArray })) (Value.string ({ data := ([94, 40] ++ e.fmt).toArray })), BinIs Tryz.prog BinOp.add 9 (Operand.tmp 19) (Operand.const (Value.string { data := #[41] })) (Value.string ({ data := ([94, 40] ++ e.fmt).toArray })) (Value.string ({ data := #[41] })) (Value.string ({ data := ([94, 40] ++ e.fmt ++ [41]).toArray })), BinIs Tryz.prog BinOp.add 9 (Operand.tmp 16) (Operand.tmp 20) (Value.string ({ data := #[119] })) (Value.string ({ data := ([94, 40] ++ e.fmt ++ [41]).toArray })) (Value.string ({ data := ([119] ++ ([94, 40] ++ e.fmt ++ [41])).toArray })), Puk 78 [(obA (((e.cons c).cons r).ob))] (obA c.ob), Puk 100 [(inA 1)] (.dt (.val (Value.string ({ data := #[49] })))), BinIs Tryz.prog BinOp.neq 9 (Operand.tmp 34) (Operand.tmp 35) (Value.string ({ data := c.ob.num.toArray })) (Value.string ({ data := #[49] })) (Value.bool false), Puk 79 [(obA (((e.cons c).cons r).ob))] (obA r.ob), Puk 85 [(obA r.ob)] (boA true)]) Tryz.func69 (by kernel_rfl) (by kernel_rfl) ⟨p_oInf (.cons (.cons e c) r), p_oExp (.cons (.cons e c) r), (p_oInf e).b ie, fe, bin_strs (by simp; omega), bin_strs (by simp; omega), bin_strs (by simp; omega), p_oCoef (.cons (.cons e c) r), p_fromInt1, bin_sne (by rw [decide_eq_true nc]; rfl), p_oRest (.cons (.cons e c) r), (p_oZero r).b zr, trivial⟩) (by simp [nc])
          | false => exact Puk.s (a := (([119] ++ (([94, 40] ++ Tr.fmt e) ++ [41])) ++ ([32, 43, 32] ++ Tr.fmt r))) (pwalk (an := [some (boA true), some (trA e), some (boA true), some (stA (Tr.fmt e)), some (stA ([94, 40] ++ Tr.fmt e)), some (stA (([94, 40] ++ Tr.fmt e) ++ [41])), some (stA ([119] ++ (([94, 40] ++ Tr.fmt e) ++ [41]))), some (trA c), some (stA [49]), some (boA false), some (trA r), some (boA false), some (stA (Tr.fmt r)), some (stA ([32, 43, 32] ++ Tr.fmt r)), some (stA (([119] ++ (([94, 40] ++ Tr.fmt e) ++ [41])) ++ ([32, 43, 32] ++ Tr.fmt r)))]) (ls := []) (ps := [Puk 90 [(obA (((e.cons c).cons r).ob))] (boA true), Puk 77 [(obA (((e.cons c).cons r).ob))] (obA e.ob), Puk 90 [(obA e.ob)] (boA true), Puk 69 [(obA e.ob)] (.dt (.val (Value.string ({ data := e.fmt.toArray })))), BinIs Tryz.prog BinOp.add 9 (Operand.const (Value.string { data := #[94, 40] })) (Operand.tmp 18) (Value.string ({ data := #[94, 40] })) (Value.string ({ data := e.fmt.toArray })) (Value.string ({ data := ([94, 40] ++ e.fmt).toArray })), BinIs Tryz.prog BinOp.add 9 (Operand.tmp 19) (Operand.const (Value.string { data := #[41] })) (Value.string ({ data := ([94, 40] ++ e.fmt).toArray })) (Value.string ({ data := #[41] })) (Value.string ({ data := ([94, 40] ++ e.fmt ++ [41]).toArray })), BinIs Tryz.prog BinOp.add 9 (Operand.tmp 16) (Operand.tmp 20) (Value.string ({ data := #[119] })) (Value.string ({ data := ([94, 40] ++ e.fmt ++ [41]).toArray })) (Value.string ({ data := ([119] ++ ([94, 40] ++ e.fmt ++ [41])).toArray })), Puk 78 [(obA (((e.cons c).cons r).ob))] (obA c.ob), Puk 100 [(inA 1)] (.dt (.val (Value.string ({ data := #[49] })))), BinIs Tryz.prog BinOp.neq 9 (Operand.tmp 34) (Operand.tmp 35) (Value.string ({ data := c.ob.num.toArray })) (Value.string ({ data := #[49] })) (Value.bool false), Puk 79 [(obA (((e.cons c).cons r).ob))] (obA r.ob), Puk 85 [(obA r.ob)] (boA false), Puk 69 [(obA r.ob)] (.dt (.val (Value.string ({ data := r.fmt.toArray })))), BinIs Tryz.prog BinOp.add 9 (Operand.const (Value.string { data := #[32, 43, 32] })) (Operand.tmp 49) (Value.string ({ data := #[32, 43, 32] })) (Value.string ({ data := r.fmt.toArray })) (Value.string ({ data := ([32, 43, 32] ++ r.fmt).toArray })), BinIs Tryz.prog BinOp.add 9 (Operand.tmp 47) (Operand.tmp 50) (Value.string ({ data := ([119] ++ ([94, 40] ++ e.fmt ++ [41])).toArray })) (Value.string ({ data := ([32, 43, 32] ++ r.fmt).toArray })) (Value.string ({ data := ([119] ++ ([94, 40] ++ e.fmt ++ [41]) ++ ([32, 43, 32] ++ r.fmt)).toArray }))]) Tryz.func69 (by kernel_rfl) (by kernel_rfl) ⟨p_oInf (.cons (.cons e c) r), p_oExp (.cons (.cons e c) r), (p_oInf e).b ie, fe, bin_strs (by simp; omega), bin_strs (by simp; omega), bin_strs (by simp; omega), p_oCoef (.cons (.cons e c) r), p_fromInt1, bin_sne (by rw [decide_eq_true nc]; rfl), p_oRest (.cons (.cons e c) r), (p_oZero r).b zr, fr, bin_strs (by simp; omega), bin_strs (by simp; omega), trivial⟩) (by simp [nc])
        · cases zr : r.isZ with
          | true => exact Puk.s (a := (([119] ++ (([94, 40] ++ Tr.fmt e) ++ [41])) ++ ([42] ++ c.nm))) (pwalk (an := [some (boA true), some (trA e), some (boA true), some (stA (Tr.fmt e)), some (stA ([94, 40] ++ Tr.fmt e)), some (stA (([94, 40] ++ Tr.fmt e) ++ [41])), some (stA ([119] ++ (([94, 40] ++ Tr.fmt e) ++ [41]))), some (trA c), some (stA [49]), some (boA true), some (stA ([42] ++ c.nm)), some (stA (([119] ++ (([94, 40] ++ Tr.fmt e) ++ [41])) ++ ([42] ++ c.nm))), some (trA r), some (boA true)]) (ls := []) (ps := [Puk 90 [(obA (((e.cons c).cons r).ob))] (boA true), Puk 77 [(obA (((e.cons c).cons r).ob))] (obA e.ob), Puk 90 [(obA e.ob)] (boA true), Puk 69 [(obA e.ob)] (.dt (.val (Value.string ({ data := e.fmt.toArray })))), BinIs Tryz.prog BinOp.add 9 (Operand.const (Value.string { data := #[94, 40] })) (Operand.tmp 18) (Value.string ({ data := #[94, 40] })) (Value.string ({ data := e.fmt.toArray })) (Value.string ({ data := ([94, 40] ++ e.fmt).toArray })), BinIs Tryz.prog BinOp.add 9 (Operand.tmp 19) (Operand.const (Value.string { data := #[41] })) (Value.string ({ data := ([94, 40] ++ e.fmt).toArray })) (Value.string ({ data := #[41] })) (Value.string ({ data := ([94, 40] ++ e.fmt ++ [41]).toArray })), BinIs Tryz.prog BinOp.add 9 (Operand.tmp 16) (Operand.tmp 20) (Value.string ({ data := #[119] })) (Value.string ({ data := ([94, 40] ++ e.fmt ++ [41]).toArray })) (Value.string ({ data := ([119] ++ ([94, 40] ++ e.fmt ++ [41])).toArray })), Puk 78 [(obA (((e.cons c).cons r).ob))] (obA c.ob), Puk 100 [(inA 1)] (.dt (.val (Value.string ({ data := #[49] })))), BinIs Tryz.prog BinOp.neq 9 (Operand.tmp 34) (Operand.tmp 35) (Value.string ({ data := c.ob.num.toArray })) (Value.string ({ data := #[49] })) (Value.bool true), BinIs Tryz.prog BinOp.add 9 (Operand.const (Value.string { data := #[42] })) (Operand.tmp 39) (Value.string ({ data := #[42] })) (Value.string ({ data := c.ob.num.toArray })) (Value.string ({ data := ([42] ++ c.nm).toArray })), BinIs Tryz.prog BinOp.add 9 (Operand.tmp 37) (Operand.tmp 40) (Value.string ({ data := ([119] ++ ([94, 40] ++ e.fmt ++ [41])).toArray })) (Value.string ({ data := ([42] ++ c.nm).toArray })) (Value.string ({ data := ([119] ++ ([94, 40] ++ e.fmt ++ [41]) ++ ([42] ++ c.nm)).toArray })), Puk 79 [(obA (((e.cons c).cons r).ob))] (obA r.ob), Puk 85 [(obA r.ob)] (boA true)]) Tryz.func69 (by kernel_rfl) (by kernel_rfl) ⟨p_oInf (.cons (.cons e c) r), p_oExp (.cons (.cons e c) r), (p_oInf e).b ie, fe, bin_strs (by simp; omega), bin_strs (by simp; omega), bin_strs (by simp; omega), p_oCoef (.cons (.cons e c) r), p_fromInt1, bin_sne (by rw [decide_eq_false nc]; rfl), bin_strs (by simp; omega), bin_strs (by simp; omega), p_oRest (.cons (.cons e c) r), (p_oZero r).b zr, trivial⟩) (by simp [nc])
          | false => exact Puk.s (a := ((([119] ++ (([94, 40] ++ Tr.fmt e) ++ [41])) ++ ([42] ++ c.nm)) ++ ([32, 43, 32] ++ Tr.fmt r))) (pwalk (an := [some (boA true), some (trA e), some (boA true), some (stA (Tr.fmt e)), some (stA ([94, 40] ++ Tr.fmt e)), some (stA (([94, 40] ++ Tr.fmt e) ++ [41])), some (stA ([119] ++ (([94, 40] ++ Tr.fmt e) ++ [41]))), some (trA c), some (stA [49]), some (boA true), some (stA ([42] ++ c.nm)), some (stA (([119] ++ (([94, 40] ++ Tr.fmt e) ++ [41])) ++ ([42] ++ c.nm))), some (trA r), some (boA false), some (stA (Tr.fmt r)), some (stA ([32, 43, 32] ++ Tr.fmt r)), some (stA ((([119] ++ (([94, 40] ++ Tr.fmt e) ++ [41])) ++ ([42] ++ c.nm)) ++ ([32, 43, 32] ++ Tr.fmt r)))]) (ls := []) (ps := [Puk 90 [(obA (((e.cons c).cons r).ob))] (boA true), Puk 77 [(obA (((e.cons c).cons r).ob))] (obA e.ob), Puk 90 [(obA e.ob)] (boA true), Puk 69 [(obA e.ob)] (.dt (.val (Value.string ({ data := e.fmt.toArray })))), BinIs Tryz.prog BinOp.add 9 (Operand.const (Value.string { data := #[94, 40] })) (Operand.tmp 18) (Value.string ({ data := #[94, 40] })) (Value.string ({ data := e.fmt.toArray })) (Value.string ({ data := ([94, 40] ++ e.fmt).toArray })), BinIs Tryz.prog BinOp.add 9 (Operand.tmp 19) (Operand.const (Value.string { data := #[41] })) (Value.string ({ data := ([94, 40] ++ e.fmt).toArray })) (Value.string ({ data := #[41] })) (Value.string ({ data := ([94, 40] ++ e.fmt ++ [41]).toArray })), BinIs Tryz.prog BinOp.add 9 (Operand.tmp 16) (Operand.tmp 20) (Value.string ({ data := #[119] })) (Value.string ({ data := ([94, 40] ++ e.fmt ++ [41]).toArray })) (Value.string ({ data := ([119] ++ ([94, 40] ++ e.fmt ++ [41])).toArray })), Puk 78 [(obA (((e.cons c).cons r).ob))] (obA c.ob), Puk 100 [(inA 1)] (.dt (.val (Value.string ({ data := #[49] })))), BinIs Tryz.prog BinOp.neq 9 (Operand.tmp 34) (Operand.tmp 35) (Value.string ({ data := c.ob.num.toArray })) (Value.string ({ data := #[49] })) (Value.bool true), BinIs Tryz.prog BinOp.add 9 (Operand.const (Value.string { data := #[42] })) (Operand.tmp 39) (Value.string ({ data := #[42] })) (Value.string ({ data := c.ob.num.toArray })) (Value.string ({ data := ([42] ++ c.nm).toArray })), BinIs Tryz.prog BinOp.add 9 (Operand.tmp 37) (Operand.tmp 40) (Value.string ({ data := ([119] ++ ([94, 40] ++ e.fmt ++ [41])).toArray })) (Value.string ({ data := ([42] ++ c.nm).toArray })) (Value.string ({ data := ([119] ++ ([94, 40] ++ e.fmt ++ [41]) ++ ([42] ++ c.nm)).toArray })), Puk 79 [(obA (((e.cons c).cons r).ob))] (obA r.ob), Puk 85 [(obA r.ob)] (boA false), Puk 69 [(obA r.ob)] (.dt (.val (Value.string ({ data := r.fmt.toArray })))), BinIs Tryz.prog BinOp.add 9 (Operand.const (Value.string { data := #[32, 43, 32] })) (Operand.tmp 49) (Value.string ({ data := #[32, 43, 32] })) (Value.string ({ data := r.fmt.toArray })) (Value.string ({ data := ([32, 43, 32] ++ r.fmt).toArray })), BinIs Tryz.prog BinOp.add 9 (Operand.tmp 47) (Operand.tmp 50) (Value.string ({ data := ([119] ++ ([94, 40] ++ e.fmt ++ [41]) ++ ([42] ++ c.nm)).toArray })) (Value.string ({ data := ([32, 43, 32] ++ r.fmt).toArray })) (Value.string ({ data := ([119] ++ ([94, 40] ++ e.fmt ++ [41]) ++ ([42] ++ c.nm) ++ ([32, 43, 32] ++ r.fmt)).toArray }))]) Tryz.func69 (by kernel_rfl) (by kernel_rfl) ⟨p_oInf (.cons (.cons e c) r), p_oExp (.cons (.cons e c) r), (p_oInf e).b ie, fe, bin_strs (by simp; omega), bin_strs (by simp; omega), bin_strs (by simp; omega), p_oCoef (.cons (.cons e c) r), p_fromInt1, bin_sne (by rw [decide_eq_false nc]; rfl), bin_strs (by simp; omega), bin_strs (by simp; omega), p_oRest (.cons (.cons e c) r), (p_oZero r).b zr, fr, bin_strs (by simp; omega), bin_strs (by simp; omega), trivial⟩) (by simp [nc])
      | false =>
        by_cases ne : e.nm = [49]
        · by_cases nc : c.nm = [49]
          · cases zr : r.isZ with
            | true => exact Puk.s (a := [119]) (pwalk (an := [some (boA true), some (trA e), some (boA false), some (stA [49]), some (boA false), some (trA c), some (stA [49]), some (boA false), some (trA r), some (boA true)]) (ls := []) (ps := [Puk 90 [(obA (((e.cons c).cons r).ob))] (boA true), Puk 77 [(obA (((e.cons c).cons r).ob))] (obA e.ob), Puk 90 [(obA e.ob)] (boA false), Puk 100 [(inA 1)] (.dt (.val (Value.string ({ data := #[49] })))), BinIs Tryz.prog BinOp.neq 9 (Operand.tmp 23) (Operand.tmp 24) (Value.string ({ data := e.ob.num.toArray })) (Value.string ({ data := #[49] })) (Value.bool false), Puk 78 [(obA (((e.cons c).cons r).ob))] (obA c.ob), Puk 100 [(inA 1)] (.dt (.val (Value.string ({ data := #[49] })))), BinIs Tryz.prog BinOp.neq 9 (Operand.tmp 34) (Operand.tmp 35) (Value.string ({ data := c.ob.num.toArray })) (Value.string ({ data := #[49] })) (Value.bool false), Puk 79 [(obA (((e.cons c).cons r).ob))] (obA r.ob), Puk 85 [(obA r.ob)] (boA true)]) Tryz.func69 (by kernel_rfl) (by kernel_rfl) ⟨p_oInf (.cons (.cons e c) r), p_oExp (.cons (.cons e c) r), (p_oInf e).b ie, p_fromInt1, bin_sne (by rw [decide_eq_true ne]; rfl), p_oCoef (.cons (.cons e c) r), p_fromInt1, bin_sne (by rw [decide_eq_true nc]; rfl), p_oRest (.cons (.cons e c) r), (p_oZero r).b zr, trivial⟩) (by simp [ne, nc])
            | false => exact Puk.s (a := ([119] ++ ([32, 43, 32] ++ Tr.fmt r))) (pwalk (an := [some (boA true), some (trA e), some (boA false), some (stA [49]), some (boA false), some (trA c), some (stA [49]), some (boA false), some (trA r), some (boA false), some (stA (Tr.fmt r)), some (stA ([32, 43, 32] ++ Tr.fmt r)), some (stA ([119] ++ ([32, 43, 32] ++ Tr.fmt r)))]) (ls := []) (ps := [Puk 90 [(obA (((e.cons c).cons r).ob))] (boA true), Puk 77 [(obA (((e.cons c).cons r).ob))] (obA e.ob), Puk 90 [(obA e.ob)] (boA false), Puk 100 [(inA 1)] (.dt (.val (Value.string ({ data := #[49] })))), BinIs Tryz.prog BinOp.neq 9 (Operand.tmp 23) (Operand.tmp 24) (Value.string ({ data := e.ob.num.toArray })) (Value.string ({ data := #[49] })) (Value.bool false), Puk 78 [(obA (((e.cons c).cons r).ob))] (obA c.ob), Puk 100 [(inA 1)] (.dt (.val (Value.string ({ data := #[49] })))), BinIs Tryz.prog BinOp.neq 9 (Operand.tmp 34) (Operand.tmp 35) (Value.string ({ data := c.ob.num.toArray })) (Value.string ({ data := #[49] })) (Value.bool false), Puk 79 [(obA (((e.cons c).cons r).ob))] (obA r.ob), Puk 85 [(obA r.ob)] (boA false), Puk 69 [(obA r.ob)] (.dt (.val (Value.string ({ data := r.fmt.toArray })))), BinIs Tryz.prog BinOp.add 9 (Operand.const (Value.string { data := #[32, 43, 32] })) (Operand.tmp 49) (Value.string ({ data := #[32, 43, 32] })) (Value.string ({ data := r.fmt.toArray })) (Value.string ({ data := ([32, 43, 32] ++ r.fmt).toArray })), BinIs Tryz.prog BinOp.add 9 (Operand.tmp 47) (Operand.tmp 50) (Value.string ({ data := #[119] })) (Value.string ({ data := ([32, 43, 32] ++ r.fmt).toArray })) (Value.string ({ data := ([119] ++ ([32, 43, 32] ++ r.fmt)).toArray }))]) Tryz.func69 (by kernel_rfl) (by kernel_rfl) ⟨p_oInf (.cons (.cons e c) r), p_oExp (.cons (.cons e c) r), (p_oInf e).b ie, p_fromInt1, bin_sne (by rw [decide_eq_true ne]; rfl), p_oCoef (.cons (.cons e c) r), p_fromInt1, bin_sne (by rw [decide_eq_true nc]; rfl), p_oRest (.cons (.cons e c) r), (p_oZero r).b zr, fr, bin_strs (by simp; omega), bin_strs (by simp; omega), trivial⟩) (by simp [ne, nc])
          · cases zr : r.isZ with
            | true => exact Puk.s (a := ([119] ++ ([42] ++ c.nm))) (pwalk (an := [some (boA true), some (trA e), some (boA false), some (stA [49]), some (boA false), some (trA c), some (stA [49]), some (boA true), some (stA ([42] ++ c.nm)), some (stA ([119] ++ ([42] ++ c.nm))), some (trA r), some (boA true)]) (ls := []) (ps := [Puk 90 [(obA (((e.cons c).cons r).ob))] (boA true), Puk 77 [(obA (((e.cons c).cons r).ob))] (obA e.ob), Puk 90 [(obA e.ob)] (boA false), Puk 100 [(inA 1)] (.dt (.val (Value.string ({ data := #[49] })))), BinIs Tryz.prog BinOp.neq 9 (Operand.tmp 23) (Operand.tmp 24) (Value.string ({ data := e.ob.num.toArray })) (Value.string ({ data := #[49] })) (Value.bool false), Puk 78 [(obA (((e.cons c).cons r).ob))] (obA c.ob), Puk 100 [(inA 1)] (.dt (.val (Value.string ({ data := #[49] })))), BinIs Tryz.prog BinOp.neq 9 (Operand.tmp 34) (Operand.tmp 35) (Value.string ({ data := c.ob.num.toArray })) (Value.string ({ data := #[49] })) (Value.bool true), BinIs Tryz.prog BinOp.add 9 (Operand.const (Value.string { data := #[42] })) (Operand.tmp 39) (Value.string ({ data := #[42] })) (Value.string ({ data := c.ob.num.toArray })) (Value.string ({ data := ([42] ++ c.nm).toArray })), BinIs Tryz.prog BinOp.add 9 (Operand.tmp 37) (Operand.tmp 40) (Value.string ({ data := #[119] })) (Value.string ({ data := ([42] ++ c.nm).toArray })) (Value.string ({ data := ([119] ++ ([42] ++ c.nm)).toArray })), Puk 79 [(obA (((e.cons c).cons r).ob))] (obA r.ob), Puk 85 [(obA r.ob)] (boA true)]) Tryz.func69 (by kernel_rfl) (by kernel_rfl) ⟨p_oInf (.cons (.cons e c) r), p_oExp (.cons (.cons e c) r), (p_oInf e).b ie, p_fromInt1, bin_sne (by rw [decide_eq_true ne]; rfl), p_oCoef (.cons (.cons e c) r), p_fromInt1, bin_sne (by rw [decide_eq_false nc]; rfl), bin_strs (by simp; omega), bin_strs (by simp; omega), p_oRest (.cons (.cons e c) r), (p_oZero r).b zr, trivial⟩) (by simp [ne, nc])
            | false => exact Puk.s (a := (([119] ++ ([42] ++ c.nm)) ++ ([32, 43, 32] ++ Tr.fmt r))) (pwalk (an := [some (boA true), some (trA e), some (boA false), some (stA [49]), some (boA false), some (trA c), some (stA [49]), some (boA true), some (stA ([42] ++ c.nm)), some (stA ([119] ++ ([42] ++ c.nm))), some (trA r), some (boA false), some (stA (Tr.fmt r)), some (stA ([32, 43, 32] ++ Tr.fmt r)), some (stA (([119] ++ ([42] ++ c.nm)) ++ ([32, 43, 32] ++ Tr.fmt r)))]) (ls := []) (ps := [Puk 90 [(obA (((e.cons c).cons r).ob))] (boA true), Puk 77 [(obA (((e.cons c).cons r).ob))] (obA e.ob), Puk 90 [(obA e.ob)] (boA false), Puk 100 [(inA 1)] (.dt (.val (Value.string ({ data := #[49] })))), BinIs Tryz.prog BinOp.neq 9 (Operand.tmp 23) (Operand.tmp 24) (Value.string ({ data := e.ob.num.toArray })) (Value.string ({ data := #[49] })) (Value.bool false), Puk 78 [(obA (((e.cons c).cons r).ob))] (obA c.ob), Puk 100 [(inA 1)] (.dt (.val (Value.string ({ data := #[49] })))), BinIs Tryz.prog BinOp.neq 9 (Operand.tmp 34) (Operand.tmp 35) (Value.string ({ data := c.ob.num.toArray })) (Value.string ({ data := #[49] })) (Value.bool true), BinIs Tryz.prog BinOp.add 9 (Operand.const (Value.string { data := #[42] })) (Operand.tmp 39) (Value.string ({ data := #[42] })) (Value.string ({ data := c.ob.num.toArray })) (Value.string ({ data := ([42] ++ c.nm).toArray })), BinIs Tryz.prog BinOp.add 9 (Operand.tmp 37) (Operand.tmp 40) (Value.string ({ data := #[119] })) (Value.string ({ data := ([42] ++ c.nm).toArray })) (Value.string ({ data := ([119] ++ ([42] ++ c.nm)).toArray })), Puk 79 [(obA (((e.cons c).cons r).ob))] (obA r.ob), Puk 85 [(obA r.ob)] (boA false), Puk 69 [(obA r.ob)] (.dt (.val (Value.string ({ data := r.fmt.toArray })))), BinIs Tryz.prog BinOp.add 9 (Operand.const (Value.string { data := #[32, 43, 32] })) (Operand.tmp 49) (Value.string ({ data := #[32, 43, 32] })) (Value.string ({ data := r.fmt.toArray })) (Value.string ({ data := ([32, 43, 32] ++ r.fmt).toArray })), BinIs Tryz.prog BinOp.add 9 (Operand.tmp 47) (Operand.tmp 50) (Value.string ({ data := ([119] ++ ([42] ++ c.nm)).toArray })) (Value.string ({ data := ([32, 43, 32] ++ r.fmt).toArray })) (Value.string ({ data := ([119] ++ ([42] ++ c.nm) ++ ([32, 43, 32] ++ r.fmt)).toArray }))]) Tryz.func69 (by kernel_rfl) (by kernel_rfl) ⟨p_oInf (.cons (.cons e c) r), p_oExp (.cons (.cons e c) r), (p_oInf e).b ie, p_fromInt1, bin_sne (by rw [decide_eq_true ne]; rfl), p_oCoef (.cons (.cons e c) r), p_fromInt1, bin_sne (by rw [decide_eq_false nc]; rfl), bin_strs (by simp; omega), bin_strs (by simp; omega), p_oRest (.cons (.cons e c) r), (p_oZero r).b zr, fr, bin_strs (by simp; omega), bin_strs (by simp; omega), trivial⟩) (by simp [ne, nc])
        · by_cases nc : c.nm = [49]
          · cases zr : r.isZ with
            | true => exact Puk.s (a := ([119] ++ ([94] ++ e.nm))) (pwalk (an := [some (boA true), some (trA e), some (boA false), some (stA [49]), some (boA true), some (stA ([94] ++ e.nm)), some (stA ([119] ++ ([94] ++ e.nm))), some (trA c), some (stA [49]), some (boA false), some (trA r), some (boA true)]) (ls := []) (ps := [Puk 90 [(obA (((e.cons c).cons r).ob))] (boA true), Puk 77 [(obA (((e.cons c).cons r).ob))] (obA e.ob), Puk 90 [(obA e.ob)] (boA false), Puk 100 [(inA 1)] (.dt (.val (Value.string ({ data := #[49] })))), BinIs Tryz.prog BinOp.neq 9 (Operand.tmp 23) (Operand.tmp 24) (Value.string ({ data := e.ob.num.toArray })) (Value.string ({ data := #[49] })) (Value.bool true), BinIs Tryz.prog BinOp.add 9 (Operand.const (Value.string { data := #[94] })) (Operand.tmp 28) (Value.string ({ data := #[94] })) (Value.string ({ data := e.ob.num.toArray })) (Value.string ({ data := ([94] ++ e.nm).toArray })), BinIs Tryz.prog BinOp.add 9 (Operand.tmp 26) (Operand.tmp 29) (Value.string ({ data := #[119] })) (Value.string ({ data := ([94] ++ e.nm).toArray })) (Value.string ({ data := ([119] ++ ([94] ++ e.nm)).toArray })), Puk 78 [(obA (((e.cons c).cons r).ob))] (obA c.ob), Puk 100 [(inA 1)] (.dt (.val (Value.string ({ data := #[49] })))), BinIs Tryz.prog BinOp.neq 9 (Operand.tmp 34) (Operand.tmp 35) (Value.string ({ data := c.ob.num.toArray })) (Value.string ({ data := #[49] })) (Value.bool false), Puk 79 [(obA (((e.cons c).cons r).ob))] (obA r.ob), Puk 85 [(obA r.ob)] (boA true)]) Tryz.func69 (by kernel_rfl) (by kernel_rfl) ⟨p_oInf (.cons (.cons e c) r), p_oExp (.cons (.cons e c) r), (p_oInf e).b ie, p_fromInt1, bin_sne (by rw [decide_eq_false ne]; rfl), bin_strs (by simp; omega), bin_strs (by simp; omega), p_oCoef (.cons (.cons e c) r), p_fromInt1, bin_sne (by rw [decide_eq_true nc]; rfl), p_oRest (.cons (.cons e c) r), (p_oZero r).b zr, trivial⟩) (by simp [ne, nc])
            | false => exact Puk.s (a := (([119] ++ ([94] ++ e.nm)) ++ ([32, 43, 32] ++ Tr.fmt r))) (pwalk (an := [some (boA true), some (trA e), some (boA false), some (stA [49]), some (boA true), some (stA ([94] ++ e.nm)), some (stA ([119] ++ ([94] ++ e.nm))), some (trA c), some (stA [49]), some (boA false), some (trA r), some (boA false), some (stA (Tr.fmt r)), some (stA ([32, 43, 32] ++ Tr.fmt r)), some (stA (([119] ++ ([94] ++ e.nm)) ++ ([32, 43, 32] ++ Tr.fmt r)))]) (ls := []) (ps := [Puk 90 [(obA (((e.cons c).cons r).ob))] (boA true), Puk 77 [(obA (((e.cons c).cons r).ob))] (obA e.ob), Puk 90 [(obA e.ob)] (boA false), Puk 100 [(inA 1)] (.dt (.val (Value.string ({ data := #[49] })))), BinIs Tryz.prog BinOp.neq 9 (Operand.tmp 23) (Operand.tmp 24) (Value.string ({ data := e.ob.num.toArray })) (Value.string ({ data := #[49] })) (Value.bool true), BinIs Tryz.prog BinOp.add 9 (Operand.const (Value.string { data := #[94] })) (Operand.tmp 28) (Value.string ({ data := #[94] })) (Value.string ({ data := e.ob.num.toArray })) (Value.string ({ data := ([94] ++ e.nm).toArray })), BinIs Tryz.prog BinOp.add 9 (Operand.tmp 26) (Operand.tmp 29) (Value.string ({ data := #[119] })) (Value.string ({ data := ([94] ++ e.nm).toArray })) (Value.string ({ data := ([119] ++ ([94] ++ e.nm)).toArray })), Puk 78 [(obA (((e.cons c).cons r).ob))] (obA c.ob), Puk 100 [(inA 1)] (.dt (.val (Value.string ({ data := #[49] })))), BinIs Tryz.prog BinOp.neq 9 (Operand.tmp 34) (Operand.tmp 35) (Value.string ({ data := c.ob.num.toArray })) (Value.string ({ data := #[49] })) (Value.bool false), Puk 79 [(obA (((e.cons c).cons r).ob))] (obA r.ob), Puk 85 [(obA r.ob)] (boA false), Puk 69 [(obA r.ob)] (.dt (.val (Value.string ({ data := r.fmt.toArray })))), BinIs Tryz.prog BinOp.add 9 (Operand.const (Value.string { data := #[32, 43, 32] })) (Operand.tmp 49) (Value.string ({ data := #[32, 43, 32] })) (Value.string ({ data := r.fmt.toArray })) (Value.string ({ data := ([32, 43, 32] ++ r.fmt).toArray })), BinIs Tryz.prog BinOp.add 9 (Operand.tmp 47) (Operand.tmp 50) (Value.string ({ data := ([119] ++ ([94] ++ e.nm)).toArray })) (Value.string ({ data := ([32, 43, 32] ++ r.fmt).toArray })) (Value.string ({ data := ([119] ++ ([94] ++ e.nm) ++ ([32, 43, 32] ++ r.fmt)).toArray }))]) Tryz.func69 (by kernel_rfl) (by kernel_rfl) ⟨p_oInf (.cons (.cons e c) r), p_oExp (.cons (.cons e c) r), (p_oInf e).b ie, p_fromInt1, bin_sne (by rw [decide_eq_false ne]; rfl), bin_strs (by simp; omega), bin_strs (by simp; omega), p_oCoef (.cons (.cons e c) r), p_fromInt1, bin_sne (by rw [decide_eq_true nc]; rfl), p_oRest (.cons (.cons e c) r), (p_oZero r).b zr, fr, bin_strs (by simp; omega), bin_strs (by simp; omega), trivial⟩) (by simp [ne, nc])
          · cases zr : r.isZ with
            | true => exact Puk.s (a := (([119] ++ ([94] ++ e.nm)) ++ ([42] ++ c.nm))) (pwalk (an := [some (boA true), some (trA e), some (boA false), some (stA [49]), some (boA true), some (stA ([94] ++ e.nm)), some (stA ([119] ++ ([94] ++ e.nm))), some (trA c), some (stA [49]), some (boA true), some (stA ([42] ++ c.nm)), some (stA (([119] ++ ([94] ++ e.nm)) ++ ([42] ++ c.nm))), some (trA r), some (boA true)]) (ls := []) (ps := [Puk 90 [(obA (((e.cons c).cons r).ob))] (boA true), Puk 77 [(obA (((e.cons c).cons r).ob))] (obA e.ob), Puk 90 [(obA e.ob)] (boA false), Puk 100 [(inA 1)] (.dt (.val (Value.string ({ data := #[49] })))), BinIs Tryz.prog BinOp.neq 9 (Operand.tmp 23) (Operand.tmp 24) (Value.string ({ data := e.ob.num.toArray })) (Value.string ({ data := #[49] })) (Value.bool true), BinIs Tryz.prog BinOp.add 9 (Operand.const (Value.string { data := #[94] })) (Operand.tmp 28) (Value.string ({ data := #[94] })) (Value.string ({ data := e.ob.num.toArray })) (Value.string ({ data := ([94] ++ e.nm).toArray })), BinIs Tryz.prog BinOp.add 9 (Operand.tmp 26) (Operand.tmp 29) (Value.string ({ data := #[119] })) (Value.string ({ data := ([94] ++ e.nm).toArray })) (Value.string ({ data := ([119] ++ ([94] ++ e.nm)).toArray })), Puk 78 [(obA (((e.cons c).cons r).ob))] (obA c.ob), Puk 100 [(inA 1)] (.dt (.val (Value.string ({ data := #[49] })))), BinIs Tryz.prog BinOp.neq 9 (Operand.tmp 34) (Operand.tmp 35) (Value.string ({ data := c.ob.num.toArray })) (Value.string ({ data := #[49] })) (Value.bool true), BinIs Tryz.prog BinOp.add 9 (Operand.const (Value.string { data := #[42] })) (Operand.tmp 39) (Value.string ({ data := #[42] })) (Value.string ({ data := c.ob.num.toArray })) (Value.string ({ data := ([42] ++ c.nm).toArray })), BinIs Tryz.prog BinOp.add 9 (Operand.tmp 37) (Operand.tmp 40) (Value.string ({ data := ([119] ++ ([94] ++ e.nm)).toArray })) (Value.string ({ data := ([42] ++ c.nm).toArray })) (Value.string ({ data := ([119] ++ ([94] ++ e.nm) ++ ([42] ++ c.nm)).toArray })), Puk 79 [(obA (((e.cons c).cons r).ob))] (obA r.ob), Puk 85 [(obA r.ob)] (boA true)]) Tryz.func69 (by kernel_rfl) (by kernel_rfl) ⟨p_oInf (.cons (.cons e c) r), p_oExp (.cons (.cons e c) r), (p_oInf e).b ie, p_fromInt1, bin_sne (by rw [decide_eq_false ne]; rfl), bin_strs (by simp; omega), bin_strs (by simp; omega), p_oCoef (.cons (.cons e c) r), p_fromInt1, bin_sne (by rw [decide_eq_false nc]; rfl), bin_strs (by simp; omega), bin_strs (by simp; omega), p_oRest (.cons (.cons e c) r), (p_oZero r).b zr, trivial⟩) (by simp [ne, nc])
            | false => exact Puk.s (a := ((([119] ++ ([94] ++ e.nm)) ++ ([42] ++ c.nm)) ++ ([32, 43, 32] ++ Tr.fmt r))) (pwalk (an := [some (boA true), some (trA e), some (boA false), some (stA [49]), some (boA true), some (stA ([94] ++ e.nm)), some (stA ([119] ++ ([94] ++ e.nm))), some (trA c), some (stA [49]), some (boA true), some (stA ([42] ++ c.nm)), some (stA (([119] ++ ([94] ++ e.nm)) ++ ([42] ++ c.nm))), some (trA r), some (boA false), some (stA (Tr.fmt r)), some (stA ([32, 43, 32] ++ Tr.fmt r)), some (stA ((([119] ++ ([94] ++ e.nm)) ++ ([42] ++ c.nm)) ++ ([32, 43, 32] ++ Tr.fmt r)))]) (ls := []) (ps := [Puk 90 [(obA (((e.cons c).cons r).ob))] (boA true), Puk 77 [(obA (((e.cons c).cons r).ob))] (obA e.ob), Puk 90 [(obA e.ob)] (boA false), Puk 100 [(inA 1)] (.dt (.val (Value.string ({ data := #[49] })))), BinIs Tryz.prog BinOp.neq 9 (Operand.tmp 23) (Operand.tmp 24) (Value.string ({ data := e.ob.num.toArray })) (Value.string ({ data := #[49] })) (Value.bool true), BinIs Tryz.prog BinOp.add 9 (Operand.const (Value.string { data := #[94] })) (Operand.tmp 28) (Value.string ({ data := #[94] })) (Value.string ({ data := e.ob.num.toArray })) (Value.string ({ data := ([94] ++ e.nm).toArray })), BinIs Tryz.prog BinOp.add 9 (Operand.tmp 26) (Operand.tmp 29) (Value.string ({ data := #[119] })) (Value.string ({ data := ([94] ++ e.nm).toArray })) (Value.string ({ data := ([119] ++ ([94] ++ e.nm)).toArray })), Puk 78 [(obA (((e.cons c).cons r).ob))] (obA c.ob), Puk 100 [(inA 1)] (.dt (.val (Value.string ({ data := #[49] })))), BinIs Tryz.prog BinOp.neq 9 (Operand.tmp 34) (Operand.tmp 35) (Value.string ({ data := c.ob.num.toArray })) (Value.string ({ data := #[49] })) (Value.bool true), BinIs Tryz.prog BinOp.add 9 (Operand.const (Value.string { data := #[42] })) (Operand.tmp 39) (Value.string ({ data := #[42] })) (Value.string ({ data := c.ob.num.toArray })) (Value.string ({ data := ([42] ++ c.nm).toArray })), BinIs Tryz.prog BinOp.add 9 (Operand.tmp 37) (Operand.tmp 40) (Value.string ({ data := ([119] ++ ([94] ++ e.nm)).toArray })) (Value.string ({ data := ([42] ++ c.nm).toArray })) (Value.string ({ data := ([119] ++ ([94] ++ e.nm) ++ ([42] ++ c.nm)).toArray })), Puk 79 [(obA (((e.cons c).cons r).ob))] (obA r.ob), Puk 85 [(obA r.ob)] (boA false), Puk 69 [(obA r.ob)] (.dt (.val (Value.string ({ data := r.fmt.toArray })))), BinIs Tryz.prog BinOp.add 9 (Operand.const (Value.string { data := #[32, 43, 32] })) (Operand.tmp 49) (Value.string ({ data := #[32, 43, 32] })) (Value.string ({ data := r.fmt.toArray })) (Value.string ({ data := ([32, 43, 32] ++ r.fmt).toArray })), BinIs Tryz.prog BinOp.add 9 (Operand.tmp 47) (Operand.tmp 50) (Value.string ({ data := ([119] ++ ([94] ++ e.nm) ++ ([42] ++ c.nm)).toArray })) (Value.string ({ data := ([32, 43, 32] ++ r.fmt).toArray })) (Value.string ({ data := ([119] ++ ([94] ++ e.nm) ++ ([42] ++ c.nm) ++ ([32, 43, 32] ++ r.fmt)).toArray }))]) Tryz.func69 (by kernel_rfl) (by kernel_rfl) ⟨p_oInf (.cons (.cons e c) r), p_oExp (.cons (.cons e c) r), (p_oInf e).b ie, p_fromInt1, bin_sne (by rw [decide_eq_false ne]; rfl), bin_strs (by simp; omega), bin_strs (by simp; omega), p_oCoef (.cons (.cons e c) r), p_fromInt1, bin_sne (by rw [decide_eq_false nc]; rfl), bin_strs (by simp; omega), bin_strs (by simp; omega), p_oRest (.cons (.cons e c) r), (p_oZero r).b zr, fr, bin_strs (by simp; omega), bin_strs (by simp; omega), trivial⟩) (by simp [ne, nc])
theorem p_rFmt : ∀ (N : Nat) (t : Tr), t.size ≤ N → t.ov = true → Puk 29 [trA t] (stA (Tr.fmt t)) := by
  intro N
  induction N with
  | zero => intro t h; have := Tr.size_pos t; omega
  | succ N ih =>
    intro t hN vt
    have ok := Tr.ov_ok vt
    have ov := (p_rOv (by decide) (by decide) (ok.mono (m := 10000) (by decide))).b vt
    rcases Tr.fin_or t with f | ⟨e, c, r, rfl⟩
    · rw [Tr.fmt_fin f]
      exact pwalk (an := [some (boA true), some (boA false)]) (ls := []) (ps := [Puk 32 [(obA t.ob)] (boA true), Puk 61 [(obA t.ob)] (boA false)]) Tryz.func29 (by kernel_rfl) (by kernel_rfl) ⟨ov, (p_rInf t).b f, trivial⟩
    · have sz := Tr.size_e e c r
      have hp := Tr.ov_parts vt
      have hn := Tr.nf_parts (Tr.ov_nf vt)
      have fe := ih e (by omega) hp.1
      have fr := ih r (by omega) hp.2.2
      have le := Tr.fmt_len e ok.1.1
      have lr := Tr.fmt_len r ok.2
      have l3 : (Tr.cons (.cons e c) r).size ≤ 3000 := (Tr.valid_iff.1 (Tr.ov_valid vt)).1
      have me : (101 + 10) * e.size * 2 ≤ 700000 := by omega
      have mr : (101 + 10) * r.size * 2 ≤ 700000 := by omega
      have ke : e.ob.num.length ≤ 102 := Tr.nm_len ok.1.1
      have kc : c.ob.num.length ≤ 102 := Tr.nm_len ok.1.2
      have ke' : e.nm.length ≤ 102 := ke
      have kc' : c.nm.length ≤ 102 := kc
      have he : e.isNat = true ∨ e.inf = true := by
        rcases Tr.fin_or e with f | ⟨a, b, d, rfl⟩
        · left; rw [← Tr.nf_fin f]; exact hn.he
        · exact .inr rfl
      have hc : c.isNat = true ∨ c.inf = true := .inl hn.hc
      have ic : c.inf = false := (Tr.isNat_fin hn.hc).1
      rw [Tr.fmt_inf]
      cases ie : e.inf with
      | true =>
        by_cases nc : c.nm = [49]
        · cases zr : r.isZ with
          | true => exact Puk.s (a := ([119] ++ ([94] ++ (([40] ++ Tr.fmt e) ++ [41])))) (pwalk (an := [some (boA true), some (boA true), some (trA e), some (boA false), some (trA e), some (stA (Tr.fmt e)), some (trA e), some (boA true), some (stA ([40] ++ Tr.fmt e)), some (stA (([40] ++ Tr.fmt e) ++ [41])), some (stA ([94] ++ (([40] ++ Tr.fmt e) ++ [41]))), some (stA ([119] ++ ([94] ++ (([40] ++ Tr.fmt e) ++ [41])))), some (trA c), some (boA true), some (trA r), some (boA true)]) (ls := []) (ps := [Puk 32 [(obA (((e.cons c).cons r).ob))] (boA true), Puk 61 [(obA (((e.cons c).cons r).ob))] (boA true), Puk 64 [(obA (((e.cons c).cons r).ob))] (obA e.ob), Puk 70 [(obA e.ob)] (boA false), Puk 64 [(obA (((e.cons c).cons r).ob))] (obA e.ob), Puk 29 [(obA e.ob)] (.dt (.val (Value.string ({ data := e.fmt.toArray })))), Puk 64 [(obA (((e.cons c).cons r).ob))] (obA e.ob), Puk 61 [(obA e.ob)] (boA true), BinIs Tryz.prog BinOp.add 9 (Operand.const (Value.string { data := #[40] })) (Operand.tmp 23) (Value.string ({ data := #[40] })) (Value.string ({ data := e.fmt.toArray })) (Value.string ({ data := ([40] ++ e.fmt).toArray })), BinIs Tryz.prog BinOp.add 9 (Operand.tmp 24) (Operand.const (Value.string { data := #[41] })) (Value.string ({ data := ([40] ++ e.fmt).toArray })) (Value.string ({ data := #[41] })) (Value.string ({ data := ([40] ++ e.fmt ++ [41]).toArray })), BinIs Tryz.prog BinOp.add 9 (Operand.const (Value.string { data := #[94] })) (Operand.tmp 27) (Value.string ({ data := #[94] })) (Value.string ({ data := ([40] ++ e.fmt ++ [41]).toArray })) (Value.string ({ data := ([94] ++ ([40] ++ e.fmt ++ [41])).toArray })), BinIs Tryz.prog BinOp.add 9 (Operand.tmp 26) (Operand.tmp 28) (Value.string ({ data := #[119] })) (Value.string ({ data := ([94] ++ ([40] ++ e.fmt ++ [41])).toArray })) (Value.string ({ data := ([119] ++ ([94] ++ ([40] ++ e.fmt ++ [41]))).toArray })), Puk 65 [(obA (((e.cons c).cons r).ob))] (obA c.ob), Puk 70 [(obA c.ob)] (boA true), Puk 66 [(obA (((e.cons c).cons r).ob))] (obA r.ob), Puk 60 [(obA r.ob)] (boA true)]) Tryz.func29 (by kernel_rfl) (by kernel_rfl) ⟨ov, p_rInf (.cons (.cons e c) r), p_rExp (.cons (.cons e c) r), (p_rOne e he).b (by rw [ie]; rfl), p_rExp (.cons (.cons e c) r), fe, p_rExp (.cons (.cons e c) r), (p_rInf e).b ie, bin_strs (by simp; omega), bin_strs (by simp; omega), bin_strs (by simp; omega), bin_strs (by simp; omega), p_rCoef (.cons (.cons e c) r), (p_rOne c hc).b (by rw [ic, decide_eq_true nc]; rfl), p_rRest (.cons (.cons e c) r), (p_rZero r).b zr, trivial⟩) (by simp [nc])
          | false => exact Puk.s (a := (([119] ++ ([94] ++ (([40] ++ Tr.fmt e) ++ [41]))) ++ ([32, 43, 32] ++ Tr.fmt r))) (pwalk (an := [some (boA true), some (boA true), some (trA e), some (boA false), some (trA e), some (stA (Tr.fmt e)), some (trA e), some (boA true), some (stA ([40] ++ Tr.fmt e)), some (stA (([40] ++ Tr.fmt e) ++ [41])), some (stA ([94] ++ (([40] ++ Tr.fmt e) ++ [41]))), some (stA ([119] ++ ([94] ++ (([40] ++ Tr.fmt e) ++ [41])))), some (trA c), some (boA true), some (trA r), some (boA false), some (trA r), some (stA (Tr.fmt r)), some (stA ([32, 43, 32] ++ Tr.fmt r)), some (stA (([119] ++ ([94] ++ (([40] ++ Tr.fmt e) ++ [41]))) ++ ([32, 43, 32] ++ Tr.fmt r)))]) (ls := []) (ps := [Puk 32 [(obA (((e.cons c).cons r).ob))] (boA true), Puk 61 [(obA (((e.cons c).cons r).ob))] (boA true), Puk 64 [(obA (((e.cons c).cons r).ob))] (obA e.ob), Puk 70 [(obA e.ob)] (boA false), Puk 64 [(obA (((e.cons c).cons r).ob))] (obA e.ob), Puk 29 [(obA e.ob)] (.dt (.val (Value.string ({ data := e.fmt.toArray })))), Puk 64 [(obA (((e.cons c).cons r).ob))] (obA e.ob), Puk 61 [(obA e.ob)] (boA true), BinIs Tryz.prog BinOp.add 9 (Operand.const (Value.string { data := #[40] })) (Operand.tmp 23) (Value.string ({ data := #[40] })) (Value.string ({ data := e.fmt.toArray })) (Value.string ({ data := ([40] ++ e.fmt).toArray })), BinIs Tryz.prog BinOp.add 9 (Operand.tmp 24) (Operand.const (Value.string { data := #[41] })) (Value.string ({ data := ([40] ++ e.fmt).toArray })) (Value.string ({ data := #[41] })) (Value.string ({ data := ([40] ++ e.fmt ++ [41]).toArray })), BinIs Tryz.prog BinOp.add 9 (Operand.const (Value.string { data := #[94] })) (Operand.tmp 27) (Value.string ({ data := #[94] })) (Value.string ({ data := ([40] ++ e.fmt ++ [41]).toArray })) (Value.string ({ data := ([94] ++ ([40] ++ e.fmt ++ [41])).toArray })), BinIs Tryz.prog BinOp.add 9 (Operand.tmp 26) (Operand.tmp 28) (Value.string ({ data := #[119] })) (Value.string ({ data := ([94] ++ ([40] ++ e.fmt ++ [41])).toArray })) (Value.string ({ data := ([119] ++ ([94] ++ ([40] ++ e.fmt ++ [41]))).toArray })), Puk 65 [(obA (((e.cons c).cons r).ob))] (obA c.ob), Puk 70 [(obA c.ob)] (boA true), Puk 66 [(obA (((e.cons c).cons r).ob))] (obA r.ob), Puk 60 [(obA r.ob)] (boA false), Puk 66 [(obA (((e.cons c).cons r).ob))] (obA r.ob), Puk 29 [(obA r.ob)] (.dt (.val (Value.string ({ data := r.fmt.toArray })))), BinIs Tryz.prog BinOp.add 9 (Operand.const (Value.string { data := #[32, 43, 32] })) (Operand.tmp 47) (Value.string ({ data := #[32, 43, 32] })) (Value.string ({ data := r.fmt.toArray })) (Value.string ({ data := ([32, 43, 32] ++ r.fmt).toArray })), BinIs Tryz.prog BinOp.add 9 (Operand.tmp 44) (Operand.tmp 48) (Value.string ({ data := ([119] ++ ([94] ++ ([40] ++ e.fmt ++ [41]))).toArray })) (Value.string ({ data := ([32, 43, 32] ++ r.fmt).toArray })) (Value.string ({ data := ([119] ++ ([94] ++ ([40] ++ e.fmt ++ [41])) ++ ([32, 43, 32] ++ r.fmt)).toArray }))]) Tryz.func29 (by kernel_rfl) (by kernel_rfl) ⟨ov, p_rInf (.cons (.cons e c) r), p_rExp (.cons (.cons e c) r), (p_rOne e he).b (by rw [ie]; rfl), p_rExp (.cons (.cons e c) r), fe, p_rExp (.cons (.cons e c) r), (p_rInf e).b ie, bin_strs (by simp; omega), bin_strs (by simp; omega), bin_strs (by simp; omega), bin_strs (by simp; omega), p_rCoef (.cons (.cons e c) r), (p_rOne c hc).b (by rw [ic, decide_eq_true nc]; rfl), p_rRest (.cons (.cons e c) r), (p_rZero r).b zr, p_rRest (.cons (.cons e c) r), fr, bin_strs (by simp; omega), bin_strs (by simp; omega), trivial⟩) (by simp [nc])
        · cases zr : r.isZ with
          | true => exact Puk.s (a := (([119] ++ ([94] ++ (([40] ++ Tr.fmt e) ++ [41]))) ++ ([42] ++ c.nm))) (pwalk (an := [some (boA true), some (boA true), some (trA e), some (boA false), some (trA e), some (stA (Tr.fmt e)), some (trA e), some (boA true), some (stA ([40] ++ Tr.fmt e)), some (stA (([40] ++ Tr.fmt e) ++ [41])), some (stA ([94] ++ (([40] ++ Tr.fmt e) ++ [41]))), some (stA ([119] ++ ([94] ++ (([40] ++ Tr.fmt e) ++ [41])))), some (trA c), some (boA false), some (trA c), some (stA ([42] ++ c.nm)), some (stA (([119] ++ ([94] ++ (([40] ++ Tr.fmt e) ++ [41]))) ++ ([42] ++ c.nm))), some (trA r), some (boA true)]) (ls := []) (ps := [Puk 32 [(obA (((e.cons c).cons r).ob))] (boA true), Puk 61 [(obA (((e.cons c).cons r).ob))] (boA true), Puk 64 [(obA (((e.cons c).cons r).ob))] (obA e.ob), Puk 70 [(obA e.ob)] (boA false), Puk 64 [(obA (((e.cons c).cons r).ob))] (obA e.ob), Puk 29 [(obA e.ob)] (.dt (.val (Value.string ({ data := e.fmt.toArray })))), Puk 64 [(obA (((e.cons c).cons r).ob))] (obA e.ob), Puk 61 [(obA e.ob)] (boA true), BinIs Tryz.prog BinOp.add 9 (Operand.const (Value.string { data := #[40] })) (Operand.tmp 23) (Value.string ({ data := #[40] })) (Value.string ({ data := e.fmt.toArray })) (Value.string ({ data := ([40] ++ e.fmt).toArray })), BinIs Tryz.prog BinOp.add 9 (Operand.tmp 24) (Operand.const (Value.string { data := #[41] })) (Value.string ({ data := ([40] ++ e.fmt).toArray })) (Value.string ({ data := #[41] })) (Value.string ({ data := ([40] ++ e.fmt ++ [41]).toArray })), BinIs Tryz.prog BinOp.add 9 (Operand.const (Value.string { data := #[94] })) (Operand.tmp 27) (Value.string ({ data := #[94] })) (Value.string ({ data := ([40] ++ e.fmt ++ [41]).toArray })) (Value.string ({ data := ([94] ++ ([40] ++ e.fmt ++ [41])).toArray })), BinIs Tryz.prog BinOp.add 9 (Operand.tmp 26) (Operand.tmp 28) (Value.string ({ data := #[119] })) (Value.string ({ data := ([94] ++ ([40] ++ e.fmt ++ [41])).toArray })) (Value.string ({ data := ([119] ++ ([94] ++ ([40] ++ e.fmt ++ [41]))).toArray })), Puk 65 [(obA (((e.cons c).cons r).ob))] (obA c.ob), Puk 70 [(obA c.ob)] (boA false), Puk 65 [(obA (((e.cons c).cons r).ob))] (obA c.ob), BinIs Tryz.prog BinOp.add 9 (Operand.const (Value.string { data := #[42] })) (Operand.tmp 37) (Value.string ({ data := #[42] })) (Value.string ({ data := c.ob.num.toArray })) (Value.string ({ data := ([42] ++ c.nm).toArray })), BinIs Tryz.prog BinOp.add 9 (Operand.tmp 34) (Operand.tmp 38) (Value.string ({ data := ([119] ++ ([94] ++ ([40] ++ e.fmt ++ [41]))).toArray })) (Value.string ({ data := ([42] ++ c.nm).toArray })) (Value.string ({ data := ([119] ++ ([94] ++ ([40] ++ e.fmt ++ [41])) ++ ([42] ++ c.nm)).toArray })), Puk 66 [(obA (((e.cons c).cons r).ob))] (obA r.ob), Puk 60 [(obA r.ob)] (boA true)]) Tryz.func29 (by kernel_rfl) (by kernel_rfl) ⟨ov, p_rInf (.cons (.cons e c) r), p_rExp (.cons (.cons e c) r), (p_rOne e he).b (by rw [ie]; rfl), p_rExp (.cons (.cons e c) r), fe, p_rExp (.cons (.cons e c) r), (p_rInf e).b ie, bin_strs (by simp; omega), bin_strs (by simp; omega), bin_strs (by simp; omega), bin_strs (by simp; omega), p_rCoef (.cons (.cons e c) r), (p_rOne c hc).b (by rw [ic, decide_eq_false nc]; rfl), p_rCoef (.cons (.cons e c) r), bin_strs (by simp; omega), bin_strs (by simp; omega), p_rRest (.cons (.cons e c) r), (p_rZero r).b zr, trivial⟩) (by simp [nc])
          | false => exact Puk.s (a := ((([119] ++ ([94] ++ (([40] ++ Tr.fmt e) ++ [41]))) ++ ([42] ++ c.nm)) ++ ([32, 43, 32] ++ Tr.fmt r))) (pwalk (an := [some (boA true), some (boA true), some (trA e), some (boA false), some (trA e), some (stA (Tr.fmt e)), some (trA e), some (boA true), some (stA ([40] ++ Tr.fmt e)), some (stA (([40] ++ Tr.fmt e) ++ [41])), some (stA ([94] ++ (([40] ++ Tr.fmt e) ++ [41]))), some (stA ([119] ++ ([94] ++ (([40] ++ Tr.fmt e) ++ [41])))), some (trA c), some (boA false), some (trA c), some (stA ([42] ++ c.nm)), some (stA (([119] ++ ([94] ++ (([40] ++ Tr.fmt e) ++ [41]))) ++ ([42] ++ c.nm))), some (trA r), some (boA false), some (trA r), some (stA (Tr.fmt r)), some (stA ([32, 43, 32] ++ Tr.fmt r)), some (stA ((([119] ++ ([94] ++ (([40] ++ Tr.fmt e) ++ [41]))) ++ ([42] ++ c.nm)) ++ ([32, 43, 32] ++ Tr.fmt r)))]) (ls := []) (ps := [Puk 32 [(obA (((e.cons c).cons r).ob))] (boA true), Puk 61 [(obA (((e.cons c).cons r).ob))] (boA true), Puk 64 [(obA (((e.cons c).cons r).ob))] (obA e.ob), Puk 70 [(obA e.ob)] (boA false), Puk 64 [(obA (((e.cons c).cons r).ob))] (obA e.ob), Puk 29 [(obA e.ob)] (.dt (.val (Value.string ({ data := e.fmt.toArray })))), Puk 64 [(obA (((e.cons c).cons r).ob))] (obA e.ob), Puk 61 [(obA e.ob)] (boA true), BinIs Tryz.prog BinOp.add 9 (Operand.const (Value.string { data := #[40] })) (Operand.tmp 23) (Value.string ({ data := #[40] })) (Value.string ({ data := e.fmt.toArray })) (Value.string ({ data := ([40] ++ e.fmt).toArray })), BinIs Tryz.prog BinOp.add 9 (Operand.tmp 24) (Operand.const (Value.string { data := #[41] })) (Value.string ({ data := ([40] ++ e.fmt).toArray })) (Value.string ({ data := #[41] })) (Value.string ({ data := ([40] ++ e.fmt ++ [41]).toArray })), BinIs Tryz.prog BinOp.add 9 (Operand.const (Value.string { data := #[94] })) (Operand.tmp 27) (Value.string ({ data := #[94] })) (Value.string ({ data := ([40] ++ e.fmt ++ [41]).toArray })) (Value.string ({ data := ([94] ++ ([40] ++ e.fmt ++ [41])).toArray })), BinIs Tryz.prog BinOp.add 9 (Operand.tmp 26) (Operand.tmp 28) (Value.string ({ data := #[119] })) (Value.string ({ data := ([94] ++ ([40] ++ e.fmt ++ [41])).toArray })) (Value.string ({ data := ([119] ++ ([94] ++ ([40] ++ e.fmt ++ [41]))).toArray })), Puk 65 [(obA (((e.cons c).cons r).ob))] (obA c.ob), Puk 70 [(obA c.ob)] (boA false), Puk 65 [(obA (((e.cons c).cons r).ob))] (obA c.ob), BinIs Tryz.prog BinOp.add 9 (Operand.const (Value.string { data := #[42] })) (Operand.tmp 37) (Value.string ({ data := #[42] })) (Value.string ({ data := c.ob.num.toArray })) (Value.string ({ data := ([42] ++ c.nm).toArray })), BinIs Tryz.prog BinOp.add 9 (Operand.tmp 34) (Operand.tmp 38) (Value.string ({ data := ([119] ++ ([94] ++ ([40] ++ e.fmt ++ [41]))).toArray })) (Value.string ({ data := ([42] ++ c.nm).toArray })) (Value.string ({ data := ([119] ++ ([94] ++ ([40] ++ e.fmt ++ [41])) ++ ([42] ++ c.nm)).toArray })), Puk 66 [(obA (((e.cons c).cons r).ob))] (obA r.ob), Puk 60 [(obA r.ob)] (boA false), Puk 66 [(obA (((e.cons c).cons r).ob))] (obA r.ob), Puk 29 [(obA r.ob)] (.dt (.val (Value.string ({ data := r.fmt.toArray })))), BinIs Tryz.prog BinOp.add 9 (Operand.const (Value.string { data := #[32, 43, 32] })) (Operand.tmp 47) (Value.string ({ data := #[32, 43, 32] })) (Value.string ({ data := r.fmt.toArray })) (Value.string ({ data := ([32, 43, 32] ++ r.fmt).toArray })), BinIs Tryz.prog BinOp.add 9 (Operand.tmp 44) (Operand.tmp 48) (Value.string ({ data := ([119] ++ ([94] ++ ([40] ++ e.fmt ++ [41])) ++ ([42] ++ c.nm)).toArray })) (Value.string ({ data := ([32, 43, 32] ++ r.fmt).toArray })) (Value.string ({ data := ([119] ++ ([94] ++ ([40] ++ e.fmt ++ [41])) ++ ([42] ++ c.nm) ++ ([32, 43, 32] ++ r.fmt)).toArray }))]) Tryz.func29 (by kernel_rfl) (by kernel_rfl) ⟨ov, p_rInf (.cons (.cons e c) r), p_rExp (.cons (.cons e c) r), (p_rOne e he).b (by rw [ie]; rfl), p_rExp (.cons (.cons e c) r), fe, p_rExp (.cons (.cons e c) r), (p_rInf e).b ie, bin_strs (by simp; omega), bin_strs (by simp; omega), bin_strs (by simp; omega), bin_strs (by simp; omega), p_rCoef (.cons (.cons e c) r), (p_rOne c hc).b (by rw [ic, decide_eq_false nc]; rfl), p_rCoef (.cons (.cons e c) r), bin_strs (by simp; omega), bin_strs (by simp; omega), p_rRest (.cons (.cons e c) r), (p_rZero r).b zr, p_rRest (.cons (.cons e c) r), fr, bin_strs (by simp; omega), bin_strs (by simp; omega), trivial⟩) (by simp [nc])
      | false =>
        by_cases ne : e.nm = [49]
        · by_cases nc : c.nm = [49]
          · cases zr : r.isZ with
            | true => exact Puk.s (a := [119]) (pwalk (an := [some (boA true), some (boA true), some (trA e), some (boA true), some (trA c), some (boA true), some (trA r), some (boA true)]) (ls := []) (ps := [Puk 32 [(obA (((e.cons c).cons r).ob))] (boA true), Puk 61 [(obA (((e.cons c).cons r).ob))] (boA true), Puk 64 [(obA (((e.cons c).cons r).ob))] (obA e.ob), Puk 70 [(obA e.ob)] (boA true), Puk 65 [(obA (((e.cons c).cons r).ob))] (obA c.ob), Puk 70 [(obA c.ob)] (boA true), Puk 66 [(obA (((e.cons c).cons r).ob))] (obA r.ob), Puk 60 [(obA r.ob)] (boA true)]) Tryz.func29 (by kernel_rfl) (by kernel_rfl) ⟨ov, p_rInf (.cons (.cons e c) r), p_rExp (.cons (.cons e c) r), (p_rOne e he).b (by rw [ie, decide_eq_true ne]; rfl), p_rCoef (.cons (.cons e c) r), (p_rOne c hc).b (by rw [ic, decide_eq_true nc]; rfl), p_rRest (.cons (.cons e c) r), (p_rZero r).b zr, trivial⟩) (by simp [ne, nc])
            | false => exact Puk.s (a := ([119] ++ ([32, 43, 32] ++ Tr.fmt r))) (pwalk (an := [some (boA true), some (boA true), some (trA e), some (boA true), some (trA c), some (boA true), some (trA r), some (boA false), some (trA r), some (stA (Tr.fmt r)), some (stA ([32, 43, 32] ++ Tr.fmt r)), some (stA ([119] ++ ([32, 43, 32] ++ Tr.fmt r)))]) (ls := []) (ps := [Puk 32 [(obA (((e.cons c).cons r).ob))] (boA true), Puk 61 [(obA (((e.cons c).cons r).ob))] (boA true), Puk 64 [(obA (((e.cons c).cons r).ob))] (obA e.ob), Puk 70 [(obA e.ob)] (boA true), Puk 65 [(obA (((e.cons c).cons r).ob))] (obA c.ob), Puk 70 [(obA c.ob)] (boA true), Puk 66 [(obA (((e.cons c).cons r).ob))] (obA r.ob), Puk 60 [(obA r.ob)] (boA false), Puk 66 [(obA (((e.cons c).cons r).ob))] (obA r.ob), Puk 29 [(obA r.ob)] (.dt (.val (Value.string ({ data := r.fmt.toArray })))), BinIs Tryz.prog BinOp.add 9 (Operand.const (Value.string { data := #[32, 43, 32] })) (Operand.tmp 47) (Value.string ({ data := #[32, 43, 32] })) (Value.string ({ data := r.fmt.toArray })) (Value.string ({ data := ([32, 43, 32] ++ r.fmt).toArray })), BinIs Tryz.prog BinOp.add 9 (Operand.tmp 44) (Operand.tmp 48) (Value.string ({ data := #[119] })) (Value.string ({ data := ([32, 43, 32] ++ r.fmt).toArray })) (Value.string ({ data := ([119] ++ ([32, 43, 32] ++ r.fmt)).toArray }))]) Tryz.func29 (by kernel_rfl) (by kernel_rfl) ⟨ov, p_rInf (.cons (.cons e c) r), p_rExp (.cons (.cons e c) r), (p_rOne e he).b (by rw [ie, decide_eq_true ne]; rfl), p_rCoef (.cons (.cons e c) r), (p_rOne c hc).b (by rw [ic, decide_eq_true nc]; rfl), p_rRest (.cons (.cons e c) r), (p_rZero r).b zr, p_rRest (.cons (.cons e c) r), fr, bin_strs (by simp; omega), bin_strs (by simp; omega), trivial⟩) (by simp [ne, nc])
          · cases zr : r.isZ with
            | true => exact Puk.s (a := ([119] ++ ([42] ++ c.nm))) (pwalk (an := [some (boA true), some (boA true), some (trA e), some (boA true), some (trA c), some (boA false), some (trA c), some (stA ([42] ++ c.nm)), some (stA ([119] ++ ([42] ++ c.nm))), some (trA r), some (boA true)]) (ls := []) (ps := [Puk 32 [(obA (((e.cons c).cons r).ob))] (boA true), Puk 61 [(obA (((e.cons c).cons r).ob))] (boA true), Puk 64 [(obA (((e.cons c).cons r).ob))] (obA e.ob), Puk 70 [(obA e.ob)] (boA true), Puk 65 [(obA (((e.cons c).cons r).ob))] (obA c.ob), Puk 70 [(obA c.ob)] (boA false), Puk 65 [(obA (((e.cons c).cons r).ob))] (obA c.ob), BinIs Tryz.prog BinOp.add 9 (Operand.const (Value.string { data := #[42] })) (Operand.tmp 37) (Value.string ({ data := #[42] })) (Value.string ({ data := c.ob.num.toArray })) (Value.string ({ data := ([42] ++ c.nm).toArray })), BinIs Tryz.prog BinOp.add 9 (Operand.tmp 34) (Operand.tmp 38) (Value.string ({ data := #[119] })) (Value.string ({ data := ([42] ++ c.nm).toArray })) (Value.string ({ data := ([119] ++ ([42] ++ c.nm)).toArray })), Puk 66 [(obA (((e.cons c).cons r).ob))] (obA r.ob), Puk 60 [(obA r.ob)] (boA true)]) Tryz.func29 (by kernel_rfl) (by kernel_rfl) ⟨ov, p_rInf (.cons (.cons e c) r), p_rExp (.cons (.cons e c) r), (p_rOne e he).b (by rw [ie, decide_eq_true ne]; rfl), p_rCoef (.cons (.cons e c) r), (p_rOne c hc).b (by rw [ic, decide_eq_false nc]; rfl), p_rCoef (.cons (.cons e c) r), bin_strs (by simp; omega), bin_strs (by simp; omega), p_rRest (.cons (.cons e c) r), (p_rZero r).b zr, trivial⟩) (by simp [ne, nc])
            | false => exact Puk.s (a := (([119] ++ ([42] ++ c.nm)) ++ ([32, 43, 32] ++ Tr.fmt r))) (pwalk (an := [some (boA true), some (boA true), some (trA e), some (boA true), some (trA c), some (boA false), some (trA c), some (stA ([42] ++ c.nm)), some (stA ([119] ++ ([42] ++ c.nm))), some (trA r), some (boA false), some (trA r), some (stA (Tr.fmt r)), some (stA ([32, 43, 32] ++ Tr.fmt r)), some (stA (([119] ++ ([42] ++ c.nm)) ++ ([32, 43, 32] ++ Tr.fmt r)))]) (ls := []) (ps := [Puk 32 [(obA (((e.cons c).cons r).ob))] (boA true), Puk 61 [(obA (((e.cons c).cons r).ob))] (boA true), Puk 64 [(obA (((e.cons c).cons r).ob))] (obA e.ob), Puk 70 [(obA e.ob)] (boA true), Puk 65 [(obA (((e.cons c).cons r).ob))] (obA c.ob), Puk 70 [(obA c.ob)] (boA false), Puk 65 [(obA (((e.cons c).cons r).ob))] (obA c.ob), BinIs Tryz.prog BinOp.add 9 (Operand.const (Value.string { data := #[42] })) (Operand.tmp 37) (Value.string ({ data := #[42] })) (Value.string ({ data := c.ob.num.toArray })) (Value.string ({ data := ([42] ++ c.nm).toArray })), BinIs Tryz.prog BinOp.add 9 (Operand.tmp 34) (Operand.tmp 38) (Value.string ({ data := #[119] })) (Value.string ({ data := ([42] ++ c.nm).toArray })) (Value.string ({ data := ([119] ++ ([42] ++ c.nm)).toArray })), Puk 66 [(obA (((e.cons c).cons r).ob))] (obA r.ob), Puk 60 [(obA r.ob)] (boA false), Puk 66 [(obA (((e.cons c).cons r).ob))] (obA r.ob), Puk 29 [(obA r.ob)] (.dt (.val (Value.string ({ data := r.fmt.toArray })))), BinIs Tryz.prog BinOp.add 9 (Operand.const (Value.string { data := #[32, 43, 32] })) (Operand.tmp 47) (Value.string ({ data := #[32, 43, 32] })) (Value.string ({ data := r.fmt.toArray })) (Value.string ({ data := ([32, 43, 32] ++ r.fmt).toArray })), BinIs Tryz.prog BinOp.add 9 (Operand.tmp 44) (Operand.tmp 48) (Value.string ({ data := ([119] ++ ([42] ++ c.nm)).toArray })) (Value.string ({ data := ([32, 43, 32] ++ r.fmt).toArray })) (Value.string ({ data := ([119] ++ ([42] ++ c.nm) ++ ([32, 43, 32] ++ r.fmt)).toArray }))]) Tryz.func29 (by kernel_rfl) (by kernel_rfl) ⟨ov, p_rInf (.cons (.cons e c) r), p_rExp (.cons (.cons e c) r), (p_rOne e he).b (by rw [ie, decide_eq_true ne]; rfl), p_rCoef (.cons (.cons e c) r), (p_rOne c hc).b (by rw [ic, decide_eq_false nc]; rfl), p_rCoef (.cons (.cons e c) r), bin_strs (by simp; omega), bin_strs (by simp; omega), p_rRest (.cons (.cons e c) r), (p_rZero r).b zr, p_rRest (.cons (.cons e c) r), fr, bin_strs (by simp; omega), bin_strs (by simp; omega), trivial⟩) (by simp [ne, nc])
        · by_cases nc : c.nm = [49]
          · cases zr : r.isZ with
            | true => exact Puk.s (a := ([119] ++ ([94] ++ Tr.fmt e))) (pwalk (an := [some (boA true), some (boA true), some (trA e), some (boA false), some (trA e), some (stA (Tr.fmt e)), some (trA e), some (boA false), some (stA ([94] ++ Tr.fmt e)), some (stA ([119] ++ ([94] ++ Tr.fmt e))), some (trA c), some (boA true), some (trA r), some (boA true)]) (ls := []) (ps := [Puk 32 [(obA (((e.cons c).cons r).ob))] (boA true), Puk 61 [(obA (((e.cons c).cons r).ob))] (boA true), Puk 64 [(obA (((e.cons c).cons r).ob))] (obA e.ob), Puk 70 [(obA e.ob)] (boA false), Puk 64 [(obA (((e.cons c).cons r).ob))] (obA e.ob), Puk 29 [(obA e.ob)] (.dt (.val (Value.string ({ data := e.fmt.toArray })))), Puk 64 [(obA (((e.cons c).cons r).ob))] (obA e.ob), Puk 61 [(obA e.ob)] (boA false), BinIs Tryz.prog BinOp.add 9 (Operand.const (Value.string { data := #[94] })) (Operand.tmp 27) (Value.string ({ data := #[94] })) (Value.string ({ data := e.fmt.toArray })) (Value.string ({ data := ([94] ++ e.fmt).toArray })), BinIs Tryz.prog BinOp.add 9 (Operand.tmp 26) (Operand.tmp 28) (Value.string ({ data := #[119] })) (Value.string ({ data := ([94] ++ e.fmt).toArray })) (Value.string ({ data := ([119] ++ ([94] ++ e.fmt)).toArray })), Puk 65 [(obA (((e.cons c).cons r).ob))] (obA c.ob), Puk 70 [(obA c.ob)] (boA true), Puk 66 [(obA (((e.cons c).cons r).ob))] (obA r.ob), Puk 60 [(obA r.ob)] (boA true)]) Tryz.func29 (by kernel_rfl) (by kernel_rfl) ⟨ov, p_rInf (.cons (.cons e c) r), p_rExp (.cons (.cons e c) r), (p_rOne e he).b (by rw [ie, decide_eq_false ne]; rfl), p_rExp (.cons (.cons e c) r), fe, p_rExp (.cons (.cons e c) r), (p_rInf e).b ie, bin_strs (by simp; omega), bin_strs (by simp; omega), p_rCoef (.cons (.cons e c) r), (p_rOne c hc).b (by rw [ic, decide_eq_true nc]; rfl), p_rRest (.cons (.cons e c) r), (p_rZero r).b zr, trivial⟩) (by simp [ne, nc, Tr.fmt_fin ie])
            | false => exact Puk.s (a := (([119] ++ ([94] ++ Tr.fmt e)) ++ ([32, 43, 32] ++ Tr.fmt r))) (pwalk (an := [some (boA true), some (boA true), some (trA e), some (boA false), some (trA e), some (stA (Tr.fmt e)), some (trA e), some (boA false), some (stA ([94] ++ Tr.fmt e)), some (stA ([119] ++ ([94] ++ Tr.fmt e))), some (trA c), some (boA true), some (trA r), some (boA false), some (trA r), some (stA (Tr.fmt r)), some (stA ([32, 43, 32] ++ Tr.fmt r)), some (stA (([119] ++ ([94] ++ Tr.fmt e)) ++ ([32, 43, 32] ++ Tr.fmt r)))]) (ls := []) (ps := [Puk 32 [(obA (((e.cons c).cons r).ob))] (boA true), Puk 61 [(obA (((e.cons c).cons r).ob))] (boA true), Puk 64 [(obA (((e.cons c).cons r).ob))] (obA e.ob), Puk 70 [(obA e.ob)] (boA false), Puk 64 [(obA (((e.cons c).cons r).ob))] (obA e.ob), Puk 29 [(obA e.ob)] (.dt (.val (Value.string ({ data := e.fmt.toArray })))), Puk 64 [(obA (((e.cons c).cons r).ob))] (obA e.ob), Puk 61 [(obA e.ob)] (boA false), BinIs Tryz.prog BinOp.add 9 (Operand.const (Value.string { data := #[94] })) (Operand.tmp 27) (Value.string ({ data := #[94] })) (Value.string ({ data := e.fmt.toArray })) (Value.string ({ data := ([94] ++ e.fmt).toArray })), BinIs Tryz.prog BinOp.add 9 (Operand.tmp 26) (Operand.tmp 28) (Value.string ({ data := #[119] })) (Value.string ({ data := ([94] ++ e.fmt).toArray })) (Value.string ({ data := ([119] ++ ([94] ++ e.fmt)).toArray })), Puk 65 [(obA (((e.cons c).cons r).ob))] (obA c.ob), Puk 70 [(obA c.ob)] (boA true), Puk 66 [(obA (((e.cons c).cons r).ob))] (obA r.ob), Puk 60 [(obA r.ob)] (boA false), Puk 66 [(obA (((e.cons c).cons r).ob))] (obA r.ob), Puk 29 [(obA r.ob)] (.dt (.val (Value.string ({ data := r.fmt.toArray })))), BinIs Tryz.prog BinOp.add 9 (Operand.const (Value.string { data := #[32, 43, 32] })) (Operand.tmp 47) (Value.string ({ data := #[32, 43, 32] })) (Value.string ({ data := r.fmt.toArray })) (Value.string ({ data := ([32, 43, 32] ++ r.fmt).toArray })), BinIs Tryz.prog BinOp.add 9 (Operand.tmp 44) (Operand.tmp 48) (Value.string ({ data := ([119] ++ ([94] ++ e.fmt)).toArray })) (Value.string ({ data := ([32, 43, 32] ++ r.fmt).toArray })) (Value.string ({ data := ([119] ++ ([94] ++ e.fmt) ++ ([32, 43, 32] ++ r.fmt)).toArray }))]) Tryz.func29 (by kernel_rfl) (by kernel_rfl) ⟨ov, p_rInf (.cons (.cons e c) r), p_rExp (.cons (.cons e c) r), (p_rOne e he).b (by rw [ie, decide_eq_false ne]; rfl), p_rExp (.cons (.cons e c) r), fe, p_rExp (.cons (.cons e c) r), (p_rInf e).b ie, bin_strs (by simp; omega), bin_strs (by simp; omega), p_rCoef (.cons (.cons e c) r), (p_rOne c hc).b (by rw [ic, decide_eq_true nc]; rfl), p_rRest (.cons (.cons e c) r), (p_rZero r).b zr, p_rRest (.cons (.cons e c) r), fr, bin_strs (by simp; omega), bin_strs (by simp; omega), trivial⟩) (by simp [ne, nc, Tr.fmt_fin ie])
          · cases zr : r.isZ with
            | true => exact Puk.s (a := (([119] ++ ([94] ++ Tr.fmt e)) ++ ([42] ++ c.nm))) (pwalk (an := [some (boA true), some (boA true), some (trA e), some (boA false), some (trA e), some (stA (Tr.fmt e)), some (trA e), some (boA false), some (stA ([94] ++ Tr.fmt e)), some (stA ([119] ++ ([94] ++ Tr.fmt e))), some (trA c), some (boA false), some (trA c), some (stA ([42] ++ c.nm)), some (stA (([119] ++ ([94] ++ Tr.fmt e)) ++ ([42] ++ c.nm))), some (trA r), some (boA true)]) (ls := []) (ps := [Puk 32 [(obA (((e.cons c).cons r).ob))] (boA true), Puk 61 [(obA (((e.cons c).cons r).ob))] (boA true), Puk 64 [(obA (((e.cons c).cons r).ob))] (obA e.ob), Puk 70 [(obA e.ob)] (boA false), Puk 64 [(obA (((e.cons c).cons r).ob))] (obA e.ob), Puk 29 [(obA e.ob)] (.dt (.val (Value.string ({ data := e.fmt.toArray })))), Puk 64 [(obA (((e.cons c).cons r).ob))] (obA e.ob), Puk 61 [(obA e.ob)] (boA false), BinIs Tryz.prog BinOp.add 9 (Operand.const (Value.string { data := #[94] })) (Operand.tmp 27) (Value.string ({ data := #[94] })) (Value.string ({ data := e.fmt.toArray })) (Value.string ({ data := ([94] ++ e.fmt).toArray })), BinIs Tryz.prog BinOp.add 9 (Operand.tmp 26) (Operand.tmp 28) (Value.string ({ data := #[119] })) (Value.string ({ data := ([94] ++ e.fmt).toArray })) (Value.string ({ data := ([119] ++ ([94] ++ e.fmt)).toArray })), Puk 65 [(obA (((e.cons c).cons r).ob))] (obA c.ob), Puk 70 [(obA c.ob)] (boA false), Puk 65 [(obA (((e.cons c).cons r).ob))] (obA c.ob), BinIs Tryz.prog BinOp.add 9 (Operand.const (Value.string { data := #[42] })) (Operand.tmp 37) (Value.string ({ data := #[42] })) (Value.string ({ data := c.ob.num.toArray })) (Value.string ({ data := ([42] ++ c.nm).toArray })), BinIs Tryz.prog BinOp.add 9 (Operand.tmp 34) (Operand.tmp 38) (Value.string ({ data := ([119] ++ ([94] ++ e.fmt)).toArray })) (Value.string ({ data := ([42] ++ c.nm).toArray })) (Value.string ({ data := ([119] ++ ([94] ++ e.fmt) ++ ([42] ++ c.nm)).toArray })), Puk 66 [(obA (((e.cons c).cons r).ob))] (obA r.ob), Puk 60 [(obA r.ob)] (boA true)]) Tryz.func29 (by kernel_rfl) (by kernel_rfl) ⟨ov, p_rInf (.cons (.cons e c) r), p_rExp (.cons (.cons e c) r), (p_rOne e he).b (by rw [ie, decide_eq_false ne]; rfl), p_rExp (.cons (.cons e c) r), fe, p_rExp (.cons (.cons e c) r), (p_rInf e).b ie, bin_strs (by simp; omega), bin_strs (by simp; omega), p_rCoef (.cons (.cons e c) r), (p_rOne c hc).b (by rw [ic, decide_eq_false nc]; rfl), p_rCoef (.cons (.cons e c) r), bin_strs (by simp; omega), bin_strs (by simp; omega), p_rRest (.cons (.cons e c) r), (p_rZero r).b zr, trivial⟩) (by simp [ne, nc, Tr.fmt_fin ie])
            | false => exact Puk.s (a := ((([119] ++ ([94] ++ Tr.fmt e)) ++ ([42] ++ c.nm)) ++ ([32, 43, 32] ++ Tr.fmt r))) (pwalk (an := [some (boA true), some (boA true), some (trA e), some (boA false), some (trA e), some (stA (Tr.fmt e)), some (trA e), some (boA false), some (stA ([94] ++ Tr.fmt e)), some (stA ([119] ++ ([94] ++ Tr.fmt e))), some (trA c), some (boA false), some (trA c), some (stA ([42] ++ c.nm)), some (stA (([119] ++ ([94] ++ Tr.fmt e)) ++ ([42] ++ c.nm))), some (trA r), some (boA false), some (trA r), some (stA (Tr.fmt r)), some (stA ([32, 43, 32] ++ Tr.fmt r)), some (stA ((([119] ++ ([94] ++ Tr.fmt e)) ++ ([42] ++ c.nm)) ++ ([32, 43, 32] ++ Tr.fmt r)))]) (ls := []) (ps := [Puk 32 [(obA (((e.cons c).cons r).ob))] (boA true), Puk 61 [(obA (((e.cons c).cons r).ob))] (boA true), Puk 64 [(obA (((e.cons c).cons r).ob))] (obA e.ob), Puk 70 [(obA e.ob)] (boA false), Puk 64 [(obA (((e.cons c).cons r).ob))] (obA e.ob), Puk 29 [(obA e.ob)] (.dt (.val (Value.string ({ data := e.fmt.toArray })))), Puk 64 [(obA (((e.cons c).cons r).ob))] (obA e.ob), Puk 61 [(obA e.ob)] (boA false), BinIs Tryz.prog BinOp.add 9 (Operand.const (Value.string { data := #[94] })) (Operand.tmp 27) (Value.string ({ data := #[94] })) (Value.string ({ data := e.fmt.toArray })) (Value.string ({ data := ([94] ++ e.fmt).toArray })), BinIs Tryz.prog BinOp.add 9 (Operand.tmp 26) (Operand.tmp 28) (Value.string ({ data := #[119] })) (Value.string ({ data := ([94] ++ e.fmt).toArray })) (Value.string ({ data := ([119] ++ ([94] ++ e.fmt)).toArray })), Puk 65 [(obA (((e.cons c).cons r).ob))] (obA c.ob), Puk 70 [(obA c.ob)] (boA false), Puk 65 [(obA (((e.cons c).cons r).ob))] (obA c.ob), BinIs Tryz.prog BinOp.add 9 (Operand.const (Value.string { data := #[42] })) (Operand.tmp 37) (Value.string ({ data := #[42] })) (Value.string ({ data := c.ob.num.toArray })) (Value.string ({ data := ([42] ++ c.nm).toArray })), BinIs Tryz.prog BinOp.add 9 (Operand.tmp 34) (Operand.tmp 38) (Value.string ({ data := ([119] ++ ([94] ++ e.fmt)).toArray })) (Value.string ({ data := ([42] ++ c.nm).toArray })) (Value.string ({ data := ([119] ++ ([94] ++ e.fmt) ++ ([42] ++ c.nm)).toArray })), Puk 66 [(obA (((e.cons c).cons r).ob))] (obA r.ob), Puk 60 [(obA r.ob)] (boA false), Puk 66 [(obA (((e.cons c).cons r).ob))] (obA r.ob), Puk 29 [(obA r.ob)] (.dt (.val (Value.string ({ data := r.fmt.toArray })))), BinIs Tryz.prog BinOp.add 9 (Operand.const (Value.string { data := #[32, 43, 32] })) (Operand.tmp 47) (Value.string ({ data := #[32, 43, 32] })) (Value.string ({ data := r.fmt.toArray })) (Value.string ({ data := ([32, 43, 32] ++ r.fmt).toArray })), BinIs Tryz.prog BinOp.add 9 (Operand.tmp 44) (Operand.tmp 48) (Value.string ({ data := ([119] ++ ([94] ++ e.fmt) ++ ([42] ++ c.nm)).toArray })) (Value.string ({ data := ([32, 43, 32] ++ r.fmt).toArray })) (Value.string ({ data := ([119] ++ ([94] ++ e.fmt) ++ ([42] ++ c.nm) ++ ([32, 43, 32] ++ r.fmt)).toArray }))]) Tryz.func29 (by kernel_rfl) (by kernel_rfl) ⟨ov, p_rInf (.cons (.cons e c) r), p_rExp (.cons (.cons e c) r), (p_rOne e he).b (by rw [ie, decide_eq_false ne]; rfl), p_rExp (.cons (.cons e c) r), fe, p_rExp (.cons (.cons e c) r), (p_rInf e).b ie, bin_strs (by simp; omega), bin_strs (by simp; omega), p_rCoef (.cons (.cons e c) r), (p_rOne c hc).b (by rw [ic, decide_eq_false nc]; rfl), p_rCoef (.cons (.cons e c) r), bin_strs (by simp; omega), bin_strs (by simp; omega), p_rRest (.cons (.cons e c) r), (p_rZero r).b zr, p_rRest (.cons (.cons e c) r), fr, bin_strs (by simp; omega), bin_strs (by simp; omega), trivial⟩) (by simp [ne, nc, Tr.fmt_fin ie])
theorem p_oFormat {t : Tr} (h : t.Ok 10000) : Puk 28 [trA t] (stA (if t.ov then t.fmt else [])) := by
  cases hv : t.ov with
  | false => exact pwalk (an := [some (boA false)]) (ls := []) (ps := [Puk 31 [(obA t.ob)] (boA false)]) Tryz.func28 (by kernel_rfl) (by kernel_rfl) ⟨(p_oOv (by decide) (by decide) h).b hv, trivial⟩
  | true => exact pwalk (an := [some (boA true), some (stA t.fmt)]) (ls := []) (ps := [Puk 31 [(obA t.ob)] (boA true), Puk 69 [(obA t.ob)] (.dt (.val (Value.string ({ data := t.fmt.toArray }))))]) Tryz.func28 (by kernel_rfl) (by kernel_rfl) ⟨(p_oOv (by decide) (by decide) h).b hv, p_oFmt _ t (Nat.le_refl _) hv, trivial⟩
theorem p_rFormat {t : Tr} (h : t.Ok 10000) : Puk 29 [trA t] (stA (if t.ov then t.fmt else [])) := by
  cases hv : t.ov with
  | false => exact pwalk (an := [some (boA false)]) (ls := []) (ps := [Puk 32 [(obA t.ob)] (boA false)]) Tryz.func29 (by kernel_rfl) (by kernel_rfl) ⟨(p_rOv (by decide) (by decide) h).b hv, trivial⟩
  | true => exact p_rFmt _ t (Nat.le_refl _) hv
end Go.Proofs.YtgphkgmhcmffnaaGreatDoor
/- Seeds as plain values; what 'small', 'few' and 'made' come to, for any seeds. -/
namespace Go.Proofs.YtgphkgmhcmffnaaGreatDoor
open Go.RowKit

abbrev sdA (s : Sd) : AV := .agg [inA s.n, .dt (.row (s.l.map Sd.enc))]
abbrev encS (s : Sd) : List Dt := [.val (.int .i64 s.n), .row (s.l.map Sd.enc)]
theorem enc_S (s : Sd) : s.enc = encS s := Sd.enc_eq s
abbrev wr (n : Int) : Int := IntKind.i64.wrap n
mutual
def smallW : Sd → Int → Int × Bool
  | ⟨_, l⟩, m => if 3 < l.length then (0, false) else match smallWL l (wr (m - 1)) with
    | none => (0, false)
    | some k => (k, decide (0 ≤ k))
def smallWL : List Sd → Int → Option Int
  | [], m => some m
  | x :: r, m => if (smallW x m).2 = true ∧ 0 ≤ (smallW x m).1 then smallWL r (smallW x m).1 else none
end
theorem smallW_eq (s : Sd) (m : Int) : smallW s m = if 3 < s.l.length then (0, false) else match smallWL s.l (wr (m - 1)) with
    | none => (0, false)
    | some k => (k, decide (0 ≤ k)) := by
  cases s; rw [smallW]
abbrev smA (x : Int × Bool) : AV := .tup [inA x.1, boA x.2]
/-- 'few' -/
def fewW (l : List Sd) : Bool := l.all fun s => (smallW s 12).2
namespace Tr
/-- one step of 'made' -/
def stepG (x : Tr) (n : Int) (o : Tr) : Tr := (((addO x (nat 1)).bind fun e => powO e (nat (1 + n % 3)) zero).bind fun p => addO p o).getD o
end Tr
mutual
def madeG : Sd → Tr
  | ⟨n, l⟩ => madeGL l (Tr.nat (n % 5))
def madeGL : List Sd → Tr → Tr
  | [], b => b
  | ⟨n, l⟩ :: r, b => Tr.stepG (madeGL l (Tr.nat (n % 5))) n (madeGL r b)
end
theorem madeG_eq (s : Sd) : madeG s = madeGL s.l (Tr.nat (s.n % 5)) := by cases s; rw [madeG]
theorem madeGL_cons (x : Sd) (r : List Sd) (b : Tr) : madeGL (x :: r) b = Tr.stepG (madeG x) x.n (madeGL r b) := by
  obtain ⟨n, l⟩ := x
  rw [madeGL, madeG]
theorem nat_ov {n : Int} (h0 : 0 ≤ n) (h1 : n ≤ 1000) : (Tr.nat n).ov = true := by
  obtain ⟨k, rfl⟩ := Int.eq_ofNat_of_zero_le h0
  exact (Tr.Sml.nat (n := k) (B := 1000) (by omega) (by omega)).ov (by omega) (by omega)
theorem stepG_ov {x o : Tr} {n : Int} (h : o.ov = true) : (Tr.stepG x n o).ov = true := by
  unfold Tr.stepG
  cases e : ((Tr.addO x (Tr.nat 1)).bind fun e => Tr.powO e (Tr.nat (1 + n % 3)) Tr.zero).bind fun p => Tr.addO p o with
  | none => exact h
  | some y =>
    obtain ⟨p, _, hp⟩ := Option.bind_eq_some_iff.1 e
    exact Tr.addO_ov hp
theorem madeGL_ov : ∀ (l : List Sd) (b : Tr), b.ov = true → (madeGL l b).ov = true
  | [], b, h => by rw [madeGL]; exact h
  | x :: r, b, h => by rw [madeGL_cons]; exact stepG_ov (madeGL_ov r b h)
theorem madeG_ov (s : Sd) : (madeG s).ov = true := by
  rw [madeG_eq]
  exact madeGL_ov _ _ (nat_ov (Int.emod_nonneg _ (by decide)) (by have := Int.emod_lt_of_pos s.n (show (0 : Int) < 5 by decide); omega))
theorem ix_sd {l : List Sd} {i : Nat} {o : Sd} (h : l[i]? = some o) : IxAt (l.map Sd.enc) (i : Int) 2 (encS o) := ⟨Int.natCast_nonneg _, by
  rw [Int.toNat_natCast, List.getElem?_map, h]
  exact congrArg some (enc_S o), rfl⟩
abbrev smS (s : Sd) (i m : Int) : AS := ⟨stt 42 [(1, inA m), (2, .ptr 0 0), (4, inA 0), (5, boA false), (6, inA i)], [some (sdA s).cells]⟩
abbrev smF : AS := ⟨stt 42 [(4, inA 0), (5, boA false)], []⟩
abbrev fwS (l : List Sd) (i : Int) : AS := ⟨stt 22 [(0, .dt (.row (l.map Sd.enc))), (2, boA false), (3, inA i)], []⟩
abbrev fwF : AS := ⟨stt 22 [(2, boA false)], []⟩
abbrev mdS (s : Sd) (o : Tr) (i : Int) : AS := ⟨stt 58 [(1, .ptr 0 0), (2, .ptr 1 0), (3, .ptr 2 0), (4, inA i)], [some (sdA s).cells, some (obA zeroO).cells, some (trA o).cells]⟩
theorem smallW_pos (s : Sd) (m : Int) (h : (smallW s m).2 = true) : 0 ≤ (smallW s m).1 := by
  rw [smallW_eq] at h ⊢
  split at h
  · cases h
  · rename_i h3
    rw [if_neg h3]
    split at h
    · cases h
    · rename_i k hk
      exact of_decide_eq_true h
theorem bin_ilt {P : Program} {t : TypeId} {x y : Operand} {k : IntKind} {a b : Int} {r : Bool} (h : decide (a < b) = r) : BinIs P .lss t x y (.int k a) (.int k b) (.bool r) := by
  refine sbin_is ?_
  simp only [sbin, decide_true]
  rw [h]
theorem bin_igt {P : Program} {t : TypeId} {x y : Operand} {k : IntKind} {a b : Int} {r : Bool} (h : decide (b < a) = r) : BinIs P .gtr t x y (.int k a) (.int k b) (.bool r) := by
  refine sbin_is ?_
  simp only [sbin, decide_true, gt_iff_lt]
  rw [h]
theorem bin_ige {P : Program} {t : TypeId} {x y : Operand} {k : IntKind} {a b : Int} {r : Bool} (h : decide (b ≤ a) = r) : BinIs P .geq t x y (.int k a) (.int k b) (.bool r) := by
  refine sbin_is ?_
  simp only [sbin, decide_true, ge_iff_le]
  rw [h]
theorem bin_iadd {P : Program} {t : TypeId} {x y : Operand} {a b c : Int} (h : a + b = c) (h0 : -9223372036854775808 ≤ c) (h1 : c ≤ 9223372036854775807) : BinIs P .add t x y (.int .i64 a) (.int .i64 b) (.int .i64 c) := by
  refine sbin_is ?_
  simp only [sbin, decide_true]
  rw [h, show IntKind.i64.wrap c = c by rw [IntKind.wrap_i64]; omega]
theorem bin_isub {P : Program} {t : TypeId} {x y : Operand} {a b c : Int} (h : a - b = c) (h0 : -9223372036854775808 ≤ c) (h1 : c ≤ 9223372036854775807) : BinIs P .sub t x y (.int .i64 a) (.int .i64 b) (.int .i64 c) := by
  refine sbin_is ?_
  simp only [sbin, decide_true]
  rw [h, show IntKind.i64.wrap c = c by rw [IntKind.wrap_i64]; omega]
end Go.Proofs.YtgphkgmhcmffnaaGreatDoor
/- Chapter 3's laws: small, few, made, for any seeds. -/
namespace Go.Proofs.YtgphkgmhcmffnaaGreatDoor
open Go.RowKit

noncomputable abbrev smB : Code := subC (bodyOf Tryz.f42) [1, 1, 1, 0, 1, 0, 0]
theorem lenEnc (l : List Sd) : Value.int .i64 (l.length : Int) = Value.int .i64 ((l.map Sd.enc).length : Int) := by rw [List.length_map]
theorem smB1 {s x : Sd} {i : Nat} {m k : Int} (hx : s.l[i]? = some x) (hk : Puk 42 [sdA x, inA m] (smA (k, false))) : Tri Tryz.prog Tab smB (smS s i m) .ret smF :=
  twalk (c := subC (bodyOf Tryz.f42) [1,1,1,0,1,0,0]) (s := smS s i m) (an := [some (inA s.l.length), some (boA true), some (.pin (encS x)), some (smA (k, false))]) (ls := []) (ft := [4,5]) (nb := 0) (e := .ret) (s' := smF) (ps := [(Value.int IntKind.i64 ↑s.l.length) = (Value.int IntKind.i64 (↑(List.map Sd.enc s.l).length)), BinIs Tryz.prog BinOp.lss 3 (Operand.tmp 15) (Operand.tmp 18) (Value.int IntKind.i64 ↑i) (Value.int IntKind.i64 ↑s.l.length) (Value.bool true), IxAt (List.map Sd.enc s.l) ↑i 2 ([(.val (Value.int IntKind.i64 x.n)), (.row (List.map Sd.enc x.l))]), Puk 42 [(.agg [(inA x.n), (.dt (.row (List.map Sd.enc x.l)))]), (inA m)] (.tup [(inA ((k, false).fst)), (boA false)])]) (by kernel_rfl)
    ⟨lenEnc _, bin_ilt (decide_eq_true (by have := (List.getElem?_eq_some_iff.1 hx).1; omega)), ix_sd hx, hk, trivial⟩
theorem smB2 {s x : Sd} {i : Nat} {m k : Int} (hx : s.l[i]? = some x) (hl : s.l.length ≤ 3) (hk : Puk 42 [sdA x, inA m] (smA (k, true))) (h0 : 0 ≤ k) : Tri Tryz.prog Tab smB (smS s i m) .nxt (smS s ((i + 1 : Nat) : Int) k) :=
  twalk (c := subC (bodyOf Tryz.f42) [1,1,1,0,1,0,0]) (s := smS s i m) (an := [some (inA s.l.length), some (boA true), some (.pin (encS x)), some (smA (k, true)), some (boA false), some (inA ((i + 1 : Nat) : Int))]) (ls := []) (ft := [1,2,4,5,6]) (nb := 1) (e := .nxt) (s' := smS s ((i + 1 : Nat) : Int) k) (ps := [(Value.int IntKind.i64 ↑s.l.length) = (Value.int IntKind.i64 (↑(List.map Sd.enc s.l).length)), BinIs Tryz.prog BinOp.lss 3 (Operand.tmp 15) (Operand.tmp 18) (Value.int IntKind.i64 ↑i) (Value.int IntKind.i64 ↑s.l.length) (Value.bool true), IxAt (List.map Sd.enc s.l) ↑i 2 ([(.val (Value.int IntKind.i64 x.n)), (.row (List.map Sd.enc x.l))]), Puk 42 [(.agg [(inA x.n), (.dt (.row (List.map Sd.enc x.l)))]), (inA m)] (.tup [(inA ((k, true).fst)), (boA true)]), BinIs Tryz.prog BinOp.lss 3 (Operand.tmp 35) (Operand.const (Value.int IntKind.i64 0)) (Value.int IntKind.i64 ((k, true).fst)) (Value.int IntKind.i64 0) (Value.bool false), BinIs Tryz.prog BinOp.add 3 (Operand.tmp 20) (Operand.const (Value.int IntKind.i64 1)) (Value.int IntKind.i64 ↑i) (Value.int IntKind.i64 1) (Value.int IntKind.i64 (↑(i + 1)))]) (by kernel_rfl)
    ⟨lenEnc _, bin_ilt (decide_eq_true (by have := (List.getElem?_eq_some_iff.1 hx).1; omega)), ix_sd hx, hk, bin_ilt (decide_eq_false (by omega)), bin_iadd (by omega) (by omega) (by have := (List.getElem?_eq_some_iff.1 hx).1; omega), trivial⟩
theorem smB3 {s : Sd} {i : Nat} {m : Int} (hi : i = s.l.length) : Tri Tryz.prog Tab smB (smS s i m) (.out 0) (smS s i m) :=
  twalk (c := subC (bodyOf Tryz.f42) [1,1,1,0,1,0,0]) (s := smS s i m) (an := [some (inA s.l.length), some (boA false)]) (ls := []) (ft := [1,2,4,5,6]) (nb := 1) (e := .out 0) (s' := smS s i m) (ps := [(Value.int IntKind.i64 ↑s.l.length) = (Value.int IntKind.i64 (↑(List.map Sd.enc s.l).length)), BinIs Tryz.prog BinOp.lss 3 (Operand.tmp 15) (Operand.tmp 18) (Value.int IntKind.i64 ↑i) (Value.int IntKind.i64 ↑s.l.length) (Value.bool false)]) (by kernel_rfl)
    ⟨lenEnc _, bin_ilt (decide_eq_false (by omega)), trivial⟩
theorem p_small : ∀ (N : Nat) (s : Sd) (m : Int), s.size ≤ N → s.Wf → Puk 42 [sdA s, inA m] (smA (smallW s m)) := by
  intro N
  induction N with
  | zero => intro s m h; have := s.size_pos; omega
  | succ N ih =>
    intro s m hN hw
    have hwl := hw.len
    rw [smallW_eq]
    by_cases h3 : 3 < s.l.length
    · rw [if_pos h3]
      exact pwalk (an := [none, some (inA s.l.length), some (boA true)]) (ls := []) (ps := [(Value.int IntKind.i64 ↑s.l.length) = (Value.int IntKind.i64 (↑(List.map Sd.enc s.l).length)), BinIs Tryz.prog BinOp.gtr 3 (Operand.tmp 13) (Operand.const (Value.int IntKind.i64 3)) (Value.int IntKind.i64 ↑s.l.length) (Value.int IntKind.i64 3) (Value.bool true)]) Tryz.func42 (by kernel_rfl) (by kernel_rfl) ⟨lenEnc _, bin_igt (decide_eq_true (by omega)), trivial⟩
    · rw [if_neg h3]
      have loop : ∀ (r : List Sd) (i : Nat) (m : Int), s.l.drop i = r → i ≤ s.l.length → (∀ x ∈ r, x.size ≤ N ∧ x.Wf) → match smallWL r m with
          | none => Lps Tryz.prog Tab smB (smS s i m) .ret smF
          | some k => Lps Tryz.prog Tab smB (smS s i m) (.out 0) (smS s s.l.length k) := by
        intro r
        induction r with
        | nil =>
          intro i m hd hi _
          have : i = s.l.length := by
            have := congrArg List.length hd
            rw [List.length_drop, List.length_nil] at this
            omega
          rw [smallWL]
          subst this
          exact .stop (smB3 rfl) (fun h => by cases h)
        | cons x r ihr =>
          intro i m hd hi hs
          have hx : s.l[i]? = some x := by rw [← List.head?_drop, hd]; rfl
          have hlt := (List.getElem?_eq_some_iff.1 hx).1
          have hk := ih x m (hs x (List.mem_cons_self ..)).1 (hs x (List.mem_cons_self ..)).2
          rw [smallWL]
          cases ho : (smallW x m).2 with
          | false =>
            rw [if_neg (by simp)]
            exact .stop (smB1 hx (k := (smallW x m).1) (by rw [← ho]; exact hk)) (fun h => by cases h)
          | true =>
            have h0 := smallW_pos x m ho
            rw [if_pos ⟨rfl, h0⟩]
            have hn := ihr (i + 1) (smallW x m).1 (by rw [← List.drop_drop, hd]; rfl) (by omega) (fun y hy => hs y (List.mem_cons_of_mem _ hy))
            have hb := smB2 hx (by omega) (k := (smallW x m).1) (by rw [← ho]; exact hk) h0
            cases hq : smallWL r (smallW x m).1 with
            | none => rw [hq] at hn; exact .more hb hn
            | some k => rw [hq] at hn; exact .more hb hn
      have hl := loop s.l 0 (wr (m - 1)) rfl (Nat.zero_le _) (fun x hx => ⟨by have := Sd.size_l hx; omega, hw.kids hx⟩)
      cases hq : smallWL s.l (wr (m - 1)) with
      | none =>
        rw [hq] at hl
        exact pwalk (an := [none, some (inA s.l.length), some (boA false)]) (ls := [⟨[1,2,4,5,6], 1, .ret, smF⟩]) (ps := [(Value.int IntKind.i64 ↑s.l.length) = (Value.int IntKind.i64 (↑(List.map Sd.enc s.l).length)), BinIs Tryz.prog BinOp.gtr 3 (Operand.tmp 13) (Operand.const (Value.int IntKind.i64 3)) (Value.int IntKind.i64 ↑s.l.length) (Value.int IntKind.i64 3) (Value.bool false), Tri Tryz.prog Tab (.loop (subC (bodyOf Tryz.f42) [1, 1, 1, 0, 1, 0, 0])) (smS s 0 (wr (m - 1))) (.ret) (smF)]) Tryz.func42 (by kernel_rfl) (by kernel_rfl) ⟨lenEnc _, bin_igt (decide_eq_false (by omega)), hl.tri, trivial⟩
      | some k =>
        rw [hq] at hl
        exact pwalk (an := [none, some (inA s.l.length), some (boA false), none]) (ls := [⟨[1,2,4,5,6], 1, .out 0, smS s s.l.length k⟩]) (ps := [(Value.int IntKind.i64 ↑s.l.length) = (Value.int IntKind.i64 (↑(List.map Sd.enc s.l).length)), BinIs Tryz.prog BinOp.gtr 3 (Operand.tmp 13) (Operand.const (Value.int IntKind.i64 3)) (Value.int IntKind.i64 ↑s.l.length) (Value.int IntKind.i64 3) (Value.bool false), Tri Tryz.prog Tab (.loop (subC (bodyOf Tryz.f42) [1, 1, 1, 0, 1, 0, 0])) (smS s 0 (wr (m - 1))) (.out 0) (smS s s.l.length k)]) Tryz.func42 (by kernel_rfl) (by kernel_rfl) ⟨lenEnc _, bin_igt (decide_eq_false (by omega)), hl.tri, trivial⟩
noncomputable abbrev fwB : Code := subC (bodyOf Tryz.f13) [1, 0, 1, 0, 0]
theorem fwB1 {l : List Sd} {x : Sd} {i : Nat} {k : Int} (hx : l[i]? = some x) (hk : Puk 42 [sdA x, inA 12] (smA (k, false))) : Tri Tryz.prog Tab fwB (fwS l i) .ret fwF :=
  twalk (c := subC (bodyOf Tryz.f13) [1,0,1,0,0]) (s := fwS l i) (an := [some (inA l.length), some (boA true), some (.pin (encS x)), some (smA (k, false))]) (ls := []) (ft := [2]) (nb := 0) (e := .ret) (s' := fwF) (ps := [(Value.int IntKind.i64 ↑l.length) = (Value.int IntKind.i64 (↑(List.map Sd.enc l).length)), BinIs Tryz.prog BinOp.lss 3 (Operand.tmp 6) (Operand.tmp 8) (Value.int IntKind.i64 ↑i) (Value.int IntKind.i64 ↑l.length) (Value.bool true), IxAt (List.map Sd.enc l) ↑i 2 ([(.val (Value.int IntKind.i64 x.n)), (.row (List.map Sd.enc x.l))]), Puk 42 [(.agg [(inA x.n), (.dt (.row (List.map Sd.enc x.l)))]), (inA 12)] (.tup [(inA ((k, false).fst)), (boA false)])]) (by kernel_rfl)
    ⟨lenEnc _, bin_ilt (decide_eq_true (by have := (List.getElem?_eq_some_iff.1 hx).1; omega)), ix_sd hx, hk, trivial⟩
theorem fwB2 {l : List Sd} {x : Sd} {i : Nat} {k : Int} (hx : l[i]? = some x) (hl : l.length ≤ 3) (hk : Puk 42 [sdA x, inA 12] (smA (k, true))) : Tri Tryz.prog Tab fwB (fwS l i) .nxt (fwS l ((i + 1 : Nat) : Int)) :=
  twalk (c := subC (bodyOf Tryz.f13) [1,0,1,0,0]) (s := fwS l i) (an := [some (inA l.length), some (boA true), some (.pin (encS x)), some (smA (k, true)), some (inA ((i + 1 : Nat) : Int))]) (ls := []) (ft := [0,2,3]) (nb := 0) (e := .nxt) (s' := fwS l ((i + 1 : Nat) : Int)) (ps := [(Value.int IntKind.i64 ↑l.length) = (Value.int IntKind.i64 (↑(List.map Sd.enc l).length)), BinIs Tryz.prog BinOp.lss 3 (Operand.tmp 6) (Operand.tmp 8) (Value.int IntKind.i64 ↑i) (Value.int IntKind.i64 ↑l.length) (Value.bool true), IxAt (List.map Sd.enc l) ↑i 2 ([(.val (Value.int IntKind.i64 x.n)), (.row (List.map Sd.enc x.l))]), Puk 42 [(.agg [(inA x.n), (.dt (.row (List.map Sd.enc x.l)))]), (inA 12)] (.tup [(inA ((k, true).fst)), (boA true)]), BinIs Tryz.prog BinOp.add 3 (Operand.tmp 10) (Operand.const (Value.int IntKind.i64 1)) (Value.int IntKind.i64 ↑i) (Value.int IntKind.i64 1) (Value.int IntKind.i64 (↑(i + 1)))]) (by kernel_rfl)
    ⟨lenEnc _, bin_ilt (decide_eq_true (by have := (List.getElem?_eq_some_iff.1 hx).1; omega)), ix_sd hx, hk, bin_iadd (by omega) (by omega) (by have := (List.getElem?_eq_some_iff.1 hx).1; omega), trivial⟩
theorem fwB3 {l : List Sd} {i : Nat} (hi : i = l.length) : Tri Tryz.prog Tab fwB (fwS l i) (.out 0) (fwS l i) :=
  twalk (c := subC (bodyOf Tryz.f13) [1,0,1,0,0]) (s := fwS l i) (an := [some (inA l.length), some (boA false)]) (ls := []) (ft := [0,2,3]) (nb := 0) (e := .out 0) (s' := fwS l i) (ps := [(Value.int IntKind.i64 ↑l.length) = (Value.int IntKind.i64 (↑(List.map Sd.enc l).length)), BinIs Tryz.prog BinOp.lss 3 (Operand.tmp 6) (Operand.tmp 8) (Value.int IntKind.i64 ↑i) (Value.int IntKind.i64 ↑l.length) (Value.bool false)]) (by kernel_rfl)
    ⟨lenEnc _, bin_ilt (decide_eq_false (by omega)), trivial⟩
theorem p_few (l : List Sd) (hl : l.length ≤ 3) (hw : ∀ x ∈ l, x.Wf) : Puk 13 [.dt (.row (l.map Sd.enc))] (boA (fewW l)) := by
  have loop : ∀ (r : List Sd) (i : Nat), l.drop i = r → i ≤ l.length → (∀ x ∈ r, x.Wf) → match fewW r with
      | false => Lps Tryz.prog Tab fwB (fwS l i) .ret fwF
      | true => Lps Tryz.prog Tab fwB (fwS l i) (.out 0) (fwS l l.length) := by
    intro r
    induction r with
    | nil =>
      intro i hd hi _
      have : i = l.length := by
        have := congrArg List.length hd
        rw [List.length_drop, List.length_nil] at this
        omega
      subst this
      exact .stop (fwB3 rfl) (fun h => by cases h)
    | cons x r ihr =>
      intro i hd hi hs
      have hx : l[i]? = some x := by rw [← List.head?_drop, hd]; rfl
      have hlt := (List.getElem?_eq_some_iff.1 hx).1
      have hk := p_small _ x 12 (Nat.le_refl _) (hs x (List.mem_cons_self ..))
      have e : fewW (x :: r) = ((smallW x 12).2 && fewW r) := rfl
      rw [e]
      cases ho : (smallW x 12).2 with
      | false => exact .stop (fwB1 hx (k := (smallW x 12).1) (by rw [← ho]; exact hk)) (fun h => by cases h)
      | true =>
        have hn := ihr (i + 1) (by rw [← List.drop_drop, hd]; rfl) (by omega) (fun y hy => hs y (List.mem_cons_of_mem _ hy))
        have hb := fwB2 hx hl (k := (smallW x 12).1) (by rw [← ho]; exact hk)
        rw [Bool.true_and]
        cases hq : fewW r with
        | false => rw [hq] at hn; exact .more hb hn
        | true => rw [hq] at hn; exact .more hb hn
  have h := loop l 0 rfl (Nat.zero_le _) hw
  cases hq : fewW l with
  | false =>
    rw [hq] at h
    exact pwalk (an := []) (ls := [⟨[0,2,3], 0, .ret, fwF⟩]) (ps := [Tri Tryz.prog Tab (.loop (subC (bodyOf Tryz.f13) [1, 0, 1, 0, 0])) (fwS l 0) (.ret) (fwF)]) Tryz.func13 (by kernel_rfl) (by kernel_rfl) ⟨h.tri, trivial⟩
  | true =>
    rw [hq] at h
    exact pwalk (an := []) (ls := [⟨[0,2,3], 0, .out 0, fwS l l.length⟩]) (ps := [Tri Tryz.prog Tab (.loop (subC (bodyOf Tryz.f13) [1, 0, 1, 0, 0])) (fwS l 0) (.out 0) (fwS l l.length)]) Tryz.func13 (by kernel_rfl) (by kernel_rfl) ⟨h.tri, trivial⟩
theorem p_mod (n m : Int) (hm : 0 < m) (hm1 : m ≤ 1000000) : Puk 16 [inA n, inA m] (inA (n % m)) :=
  ⟨fnm Tryz.func16 rfl (by kernel_rfl), fun ok w vs ht hv => by
    obtain ⟨u, us, rfl, h1, h2⟩ := hv
    obtain rfl := RL.one_val h2
    obtain rfl := Rd.val_eq h1
    exact (mod_any n m w hm hm1).mono fun e w' h => ⟨_, h.1, by rw [← h.2]; exact Below.refl _ _, .val _⟩⟩
theorem zeroO_wf : zeroO.Wf := .mk zeroO (by decide) (by decide) (Nat.zero_le _) (Nat.zero_le _) (Nat.zero_le _) (Nat.zero_le _) (Nat.zero_le _) (Nat.zero_le _) (fun x hx => by cases hx)
theorem zeroO_sm : zeroO.Sm := .mk zeroO (Nat.zero_le _) (Nat.zero_le _) (fun x hx => by cases hx)
theorem consO_wf {a d : Ob} (ha : a.Wf) (hd : d.Wf) : (consO a d).Wf := .mk (consO a d) (by show (-9223372036854775808 : Int) ≤ 4; omega) (by show (4 : Int) ≤ _; omega) (Nat.zero_le _) (Nat.zero_le _) (Nat.zero_le _) (Nat.zero_le _) (Nat.zero_le _) (by show 2 ≤ 9223372036854775807; omega) (fun x hx => by
  simp only [List.mem_cons, List.not_mem_nil, or_false] at hx
  rcases hx with rfl | rfl <;> assumption)
theorem consO_sm {a d : Ob} (ha : a.Sm) (hd : d.Sm) : (consO a d).Sm := .mk (consO a d) (Nat.zero_le _) (Nat.zero_le _) (fun x hx => by
  simp only [List.mem_cons, List.not_mem_nil, or_false] at hx
  rcases hx with rfl | rfl <;> assumption)
theorem p_rNotV {o : Ob} (hW : o.Wf) (hS : o.Sm) (h : o.validB = false) : Puk 32 [obA o] (boA false) :=
  pwalk (an := [some (boA false)]) (ls := []) (ps := [Puk 72 [(obA o)] (boA false)]) Tryz.func32 (by kernel_rfl) (by kernel_rfl) ⟨Puk.b (pk_ov (fnm Tryz.func72 rfl (by kernel_rfl)) fun ok A n c w _ hr => rValid_any ok o hW hS A n c w hr) h, trivial⟩
theorem zeroO_not : zeroO.validB = false := by decide +kernel
theorem consz_not (c r : Ob) : (consO (consO zeroO c) r).validB = false := by
  unfold Ob.validB
  have h1 : Ob.formB (consO (consO zeroO c) r) = false := by
    rw [Ob.formB_eq]
    have h2 : Ob.formB (consO zeroO c) = false := by
      rw [Ob.formB_eq]
      have h3 : Ob.formB zeroO = false := by decide +kernel
      simp [Ob.allB, h3]
    simp [Ob.allB, h2]
  rw [h1, Bool.and_false]
theorem p_rPowG {E : Option Tr} {c r : Tr} (hE : ∀ e, E = some e → e.ov = true) (hc : c.Ok 10000) (hr : r.Ok 10000) : Puk 18 [obA (resO E), trA c, trA r] (resA (E.bind fun e => Tr.powO e c r)) := by
  cases E with
  | some e => exact p_rPow ((Tr.ov_ok (hE e rfl)).mono (by decide)) hc hr
  | none => exact pwalk (an := [some (obA (consO (consO zeroO c.ob) r.ob)), some (boA false)]) (ls := []) (ps := [Puk 50 [(obA zeroO), (obA c.ob), (obA r.ob)] (obA (consO (consO zeroO c.ob) r.ob)), Puk 32 [(obA (consO (consO zeroO c.ob) r.ob))] (boA false)]) Tryz.func18 (by kernel_rfl) (by kernel_rfl) ⟨p_rPower zeroO c.ob r.ob, p_rNotV (consO_wf (consO_wf zeroO_wf (hc.wf (by decide))) (hr.wf (by decide))) (consO_sm (consO_sm zeroO_sm (hc.sm (by decide))) (hr.sm (by decide))) (consz_not _ _), trivial⟩
theorem p_rAddG {E : Option Tr} {o : Tr} (hE : ∀ e, E = some e → e.ov = true) (ho : o.Ok 10000) : Puk 25 [obA (resO E), trA o] (resA (E.bind fun e => Tr.addO e o)) := by
  cases E with
  | some e => exact p_rAddO _ e o (Nat.le_refl _) ((Tr.ov_ok (hE e rfl)).mono (by decide)) ho
  | none => exact pwalk (an := [some (boA false)]) (ls := []) (ps := [Puk 32 [(obA zeroO)] (boA false)]) Tryz.func25 (by kernel_rfl) (by kernel_rfl) ⟨p_rNotV zeroO_wf zeroO_sm zeroO_not, trivial⟩
theorem powO_ov {e c r x : Tr} (h : Tr.powO e c r = some x) : x.ov = true := by
  unfold Tr.powO at h
  split at h
  · rename_i hv; cases h; exact hv
  · cases h
noncomputable abbrev mdB : Code := subC (bodyOf Tryz.f14) [1, 1, 0, 1, 0, 0]
theorem mdB1 {s x : Sd} {i : Nat} {o : Tr} (hx : s.l[i]? = some x) (hl : s.l.length ≤ 9223372036854775807) (ho : o.ov = true) (hk : Puk 14 [sdA x] (trA (madeG x))) :
    Tri Tryz.prog Tab mdB (mdS s o i) .nxt (mdS s (Tr.stepG (madeG x) x.n o) ((i : Int) - 1)) := by
  have hi := (List.getElem?_eq_some_iff.1 hx).1
  have hm0 := Int.emod_nonneg x.n (show (3 : Int) ≠ 0 by decide)
  have hm1 := Int.emod_lt_of_pos x.n (show (0 : Int) < 3 by decide)
  have oko := (Tr.ov_ok ho).mono (m := 10000) (by decide)
  have okx := (Tr.ov_ok (madeG_ov x)).mono (m := 10000) (by decide)
  have ok1 := (Tr.ov_ok (nat_ov (n := 1) (by decide) (by decide))).mono (m := 10000) (by decide)
  have okc := (Tr.ov_ok (nat_ov (n := 1 + x.n % 3) (by omega) (by omega))).mono (m := 10000) (by decide)
  have hA := p_rAddO _ (madeG x) (Tr.nat 1) (Nat.le_refl _) okx ok1
  have hP := p_rPowG (E := Tr.addO (madeG x) (Tr.nat 1)) (c := Tr.nat (1 + x.n % 3)) (r := Tr.zero) (fun e he => Tr.addO_ov he) okc (Tr.zeroOk_ (by decide))
  have hS := p_rAddG (E := (Tr.addO (madeG x) (Tr.nat 1)).bind fun e => Tr.powO e (Tr.nat (1 + x.n % 3)) Tr.zero) (o := o) (fun e he => by
    obtain ⟨y, _, hy⟩ := Option.bind_eq_some_iff.1 he
    exact powO_ov hy) oko
  have e1 : Tr.stepG (madeG x) x.n o = ((((Tr.addO (madeG x) (Tr.nat 1)).bind fun e => Tr.powO e (Tr.nat (1 + x.n % 3)) Tr.zero).bind fun p => Tr.addO p o).getD o) := rfl
  rw [e1]
  generalize (Tr.addO (madeG x) (Tr.nat 1)).bind (fun e => Tr.powO e (Tr.nat (1 + x.n % 3)) Tr.zero) = pw at *
  generalize Tr.addO (madeG x) (Tr.nat 1) = ad at *
  cases hy : pw.bind fun p => Tr.addO p o with
  | none =>
    rw [hy] at hS
    exact twalk (c := subC (bodyOf Tryz.f14) [1,1,0,1,0,0]) (s := mdS s o i) (an := [some (boA true), some (.pin (encS x)), some (trA (madeG x)), some (trA (Tr.nat 1)), some (resA ad), some (.pin (encS x)), some (inA (x.n % 3)), some (inA (1 + x.n % 3)), some (trA (Tr.nat (1 + x.n % 3))), some (trA Tr.zero), some (resA pw), some (resA none), some (inA ((i : Int) - 1))]) (ls := []) (ft := [1,2,3,4]) (nb := 3) (e := .nxt) (s' := mdS s o ((i : Int) - 1)) (ps := [BinIs Tryz.prog BinOp.geq 3 (Operand.tmp 19) (Operand.const (Value.int IntKind.i64 0)) (Value.int IntKind.i64 ↑i) (Value.int IntKind.i64 0) (Value.bool true), IxAt (List.map Sd.enc s.l) ↑i 2 ([(.val (Value.int IntKind.i64 x.n)), (.row (List.map Sd.enc x.l))]), Puk 14 [(.agg [(inA x.n), (.dt (.row (List.map Sd.enc x.l)))])] (obA ((madeG x).ob)), Puk 43 [(inA 1)] (obA ((Tr.nat 1).ob)), Puk 25 [(obA ((madeG x).ob)), (obA ((Tr.nat 1).ob))] (.tup [(obA (resO ad)), (boA ad.isSome)]), IxAt (List.map Sd.enc s.l) ↑i 2 ([(.val (Value.int IntKind.i64 x.n)), (.row (List.map Sd.enc x.l))]), Puk 16 [(inA x.n), (inA 3)] (inA (x.n % 3)), BinIs Tryz.prog BinOp.add 3 (Operand.const (Value.int IntKind.i64 1)) (Operand.tmp 42) (Value.int IntKind.i64 1) (Value.int IntKind.i64 (x.n % 3)) (Value.int IntKind.i64 (1 + x.n % 3)), Puk 15 [(inA (1 + x.n % 3))] (obA ((Tr.nat (1 + x.n % 3)).ob)), Puk 43 [(inA 0)] (obA Tr.zero.ob), Puk 18 [(obA (resO ad)), (obA ((Tr.nat (1 + x.n % 3)).ob)), (obA Tr.zero.ob)] (.tup [(obA (resO pw)), (boA pw.isSome)]), Puk 25 [(obA (resO pw)), (obA o.ob)] (.tup [(obA (resO none)), (boA false)]), BinIs Tryz.prog BinOp.sub 3 (Operand.tmp 21) (Operand.const (Value.int IntKind.i64 1)) (Value.int IntKind.i64 ↑i) (Value.int IntKind.i64 1) (Value.int IntKind.i64 (↑i - 1))]) (by kernel_rfl)
      ⟨bin_ige (decide_eq_true (by omega)), ix_sd hx, hk, p_rNatural (by decide) (by decide), hA, ix_sd hx, p_mod _ _ (by decide) (by decide), bin_iadd rfl (by omega) (by omega), p_rInt _ (by omega) (by omega), p_rNatural (by decide) (by decide), hP, hS, bin_isub rfl (by omega) (by omega), trivial⟩
  | some y =>
    rw [hy] at hS
    exact twalk (c := subC (bodyOf Tryz.f14) [1,1,0,1,0,0]) (s := mdS s o i) (an := [some (boA true), some (.pin (encS x)), some (trA (madeG x)), some (trA (Tr.nat 1)), some (resA ad), some (.pin (encS x)), some (inA (x.n % 3)), some (inA (1 + x.n % 3)), some (trA (Tr.nat (1 + x.n % 3))), some (trA Tr.zero), some (resA pw), some (resA (some y)), some (inA ((i : Int) - 1))]) (ls := []) (ft := [1,2,3,4]) (nb := 3) (e := .nxt) (s' := mdS s y ((i : Int) - 1)) (ps := [BinIs Tryz.prog BinOp.geq 3 (Operand.tmp 19) (Operand.const (Value.int IntKind.i64 0)) (Value.int IntKind.i64 ↑i) (Value.int IntKind.i64 0) (Value.bool true), IxAt (List.map Sd.enc s.l) ↑i 2 ([(.val (Value.int IntKind.i64 x.n)), (.row (List.map Sd.enc x.l))]), Puk 14 [(.agg [(inA x.n), (.dt (.row (List.map Sd.enc x.l)))])] (obA ((madeG x).ob)), Puk 43 [(inA 1)] (obA ((Tr.nat 1).ob)), Puk 25 [(obA ((madeG x).ob)), (obA ((Tr.nat 1).ob))] (.tup [(obA (resO ad)), (boA ad.isSome)]), IxAt (List.map Sd.enc s.l) ↑i 2 ([(.val (Value.int IntKind.i64 x.n)), (.row (List.map Sd.enc x.l))]), Puk 16 [(inA x.n), (inA 3)] (inA (x.n % 3)), BinIs Tryz.prog BinOp.add 3 (Operand.const (Value.int IntKind.i64 1)) (Operand.tmp 42) (Value.int IntKind.i64 1) (Value.int IntKind.i64 (x.n % 3)) (Value.int IntKind.i64 (1 + x.n % 3)), Puk 15 [(inA (1 + x.n % 3))] (obA ((Tr.nat (1 + x.n % 3)).ob)), Puk 43 [(inA 0)] (obA Tr.zero.ob), Puk 18 [(obA (resO ad)), (obA ((Tr.nat (1 + x.n % 3)).ob)), (obA Tr.zero.ob)] (.tup [(obA (resO pw)), (boA pw.isSome)]), Puk 25 [(obA (resO pw)), (obA o.ob)] (.tup [(obA (resO (some y))), (boA true)]), BinIs Tryz.prog BinOp.sub 3 (Operand.tmp 21) (Operand.const (Value.int IntKind.i64 1)) (Value.int IntKind.i64 ↑i) (Value.int IntKind.i64 1) (Value.int IntKind.i64 (↑i - 1))]) (by kernel_rfl)
      ⟨bin_ige (decide_eq_true (by omega)), ix_sd hx, hk, p_rNatural (by decide) (by decide), hA, ix_sd hx, p_mod _ _ (by decide) (by decide), bin_iadd rfl (by omega) (by omega), p_rInt _ (by omega) (by omega), p_rNatural (by decide) (by decide), hP, hS, bin_isub rfl (by omega) (by omega), trivial⟩
theorem mdB2 {s : Sd} {o : Tr} : Tri Tryz.prog Tab mdB (mdS s o (-1)) (.out 0) (mdS s o (-1)) :=
  twalk (c := subC (bodyOf Tryz.f14) [1,1,0,1,0,0]) (s := mdS s o (-1)) (an := [some (boA false)]) (ls := []) (ft := [1,2,3,4]) (nb := 3) (e := .out 0) (s' := mdS s o (-1)) (ps := [BinIs Tryz.prog BinOp.geq 3 (Operand.tmp 19) (Operand.const (Value.int IntKind.i64 0)) (Value.int IntKind.i64 (-1)) (Value.int IntKind.i64 0) (Value.bool false)]) (by kernel_rfl) ⟨bin_ige (by decide), trivial⟩
theorem madeGL_app : ∀ (l r : List Sd) (b : Tr), madeGL (l ++ r) b = madeGL l (madeGL r b)
  | [], r, b => by rw [List.nil_append, madeGL]
  | x :: l, r, b => by rw [List.cons_append, madeGL_cons, madeGL_cons, madeGL_app l r b]
theorem p_made : ∀ (N : Nat) (s : Sd), s.size ≤ N → s.Wf → Puk 14 [sdA s] (trA (madeG s)) := by
  intro N
  induction N with
  | zero => intro s h; have := s.size_pos; omega
  | succ N ih =>
    intro s hN hw
    have hwl := hw.len
    have h50 := Int.emod_nonneg s.n (show (5 : Int) ≠ 0 by decide)
    have h51 := Int.emod_lt_of_pos s.n (show (0 : Int) < 5 by decide)
    have loop : ∀ (k : Nat) (o : Tr), k ≤ s.l.length → o.ov = true → Lps Tryz.prog Tab mdB (mdS s o ((k : Int) - 1)) (.out 0) (mdS s (madeGL (s.l.take k) o) (-1)) := by
      intro k
      induction k with
      | zero =>
        intro o _ _
        rw [List.take_zero, madeGL]
        exact .stop mdB2 (fun h => by cases h)
      | succ k ihk =>
        intro o hk ho
        have hx : s.l[k]? = some s.l[k] := List.getElem?_eq_getElem (by omega)
        have hm : s.l[k] ∈ s.l := List.getElem_mem _
        have hb := mdB1 hx hwl ho (ih s.l[k] (by have := Sd.size_l hm; omega) (hw.kids hm))
        rw [List.take_add_one, hx, madeGL_app]
        have e : madeGL (some s.l[k]).toList o = Tr.stepG (madeG s.l[k]) (s.l[k]).n o := by
          show madeGL [s.l[k]] o = _
          rw [madeGL_cons, madeGL]
        rw [e, show (((k + 1 : Nat) : Int) - 1) = (k : Int) by omega]
        exact .more hb (ihk _ (by omega) (stepG_ov ho))
    have hl := loop s.l.length (Tr.nat (s.n % 5)) (Nat.le_refl _) (nat_ov h50 (by omega))
    rw [List.take_length, ← madeG_eq] at hl
    exact pwalk (an := [some (inA (s.n % 5)), some (trA (Tr.nat (s.n % 5))), some (inA s.l.length), some (inA ((s.l.length : Int) - 1))]) (ls := [⟨[1,2,3,4], 3, .out 0, mdS s (madeG s) (-1)⟩]) (ps := [Puk 16 [(inA s.n), (inA 5)] (inA (s.n % 5)), Puk 43 [(inA (s.n % 5))] (obA ((Tr.nat (s.n % 5)).ob)), (Value.int IntKind.i64 ↑s.l.length) = (Value.int IntKind.i64 (↑(List.map Sd.enc s.l).length)), BinIs Tryz.prog BinOp.sub 3 (Operand.tmp 17) (Operand.const (Value.int IntKind.i64 1)) (Value.int IntKind.i64 ↑s.l.length) (Value.int IntKind.i64 1) (Value.int IntKind.i64 (↑s.l.length - 1)), Tri Tryz.prog Tab (.loop (subC (bodyOf Tryz.f14) [1, 1, 0, 1, 0, 0])) (mdS s (Tr.nat (s.n % 5)) ((s.l.length : Int) - 1)) (.out 0) (mdS s (madeG s) (-1))]) Tryz.func14 (by kernel_rfl) (by kernel_rfl) ⟨p_mod _ _ (by decide) (by decide), p_rNatural h50 (by omega), lenEnc _, bin_isub rfl (by omega) (by omega), hl.tri, trivial⟩
end Go.Proofs.YtgphkgmhcmffnaaGreatDoor
/- Chapter 3's laws: the ordinals of the first check. -/
namespace Go.Proofs.YtgphkgmhcmffnaaGreatDoor
open Go.RowKit

abbrev w1 : Tr := .cons (.cons (Tr.nat 1) (Tr.nat 1)) (Tr.nat 0)
abbrev w2 : Tr := .cons (.cons (Tr.nat 1) (Tr.nat 1)) (Tr.nat 1)
theorem f1 : Tr.powO (Tr.nat 1) (Tr.nat 1) (Tr.nat 0) = some w1 := by decide +kernel
theorem f2 : Tr.addO (Tr.nat 1) w1 = some w1 := by decide +kernel
theorem f3 : Tr.addO w1 (Tr.nat 1) = some w2 := by decide +kernel
theorem f4 : Tr.mulO (Tr.nat 2) w1 = some w1 := by decide +kernel
theorem f5 : (w1.ov && w2.ov && Tr.less w1 w2) = true := by decide +kernel
theorem f6 : w2.ov = true := by decide +kernel
theorem f7 : w2.fmt = [119, 32, 43, 32, 49] := by decide +kernel
theorem f8 : w2 ≠ w1 := by decide +kernel
theorem f9 : w1.ov = true := by decide +kernel
theorem run_equal_bool {P : Program} {t : TypeId} (hu : P.underlying t = some .bool) (a b : Bool) (w : World) : (Op.equal t (.bool a) (.bool b)).run P w = .ok (a == b) w := by
  show (Op.equalIn (9999 + 1) t (.bool a) (.bool b)).run P w = _
  rw [Op.equalIn]
  simp only [Sem.run_bind, run_underlying hu, Result.andThen, Sem.run_pure]
theorem bin_beq {P : Program} {t : TypeId} {x y : Operand} {a b r : Bool} (hu : P.underlying t = some .bool) (h : (a == b) = r) : BinIs P .eql t x y (.bool a) (.bool b) (.bool r) := by
  intro w
  rw [← h]
  have e : (Op.equal t (.bool a) (.bool b)).run P w = .ok (a == b) w := run_equal_bool hu a b w
  simp only [eqGuard, binOp, Sem.run_bind, Result.andThen, Bool.not_true, Bool.false_eq_true, if_false, Sem.run_pure]
  rw [e]
  all_goals rfl
theorem bin_bne {P : Program} {t : TypeId} {x y : Operand} {a b r : Bool} (hu : P.underlying t = some .bool) (h : (a != b) = r) : BinIs P .neq t x y (.bool a) (.bool b) (.bool r) := by
  intro w
  rw [← h]
  have e : (Op.equal t (.bool a) (.bool b)).run P w = .ok (a == b) w := run_equal_bool hu a b w
  simp only [eqGuard, binOp, Sem.run_bind, Result.andThen, Bool.not_true, Bool.false_eq_true, if_false, Sem.run_pure]
  rw [e]
  all_goals rfl
theorem p_rEqO (a b : Ob) (h : a.Wf) : ∃ r : Bool, (r = true ↔ a = b) ∧ Puk 19 [obA a, obA b] (boA r) := by
  have hc := Classical.propDecidable (a = b)
  refine ⟨decide (a = b), decide_eq_true_iff, fnm Tryz.func19 rfl (by kernel_rfl), fun ok w vs ht hv => ?_⟩
  obtain ⟨A, n, c, A', n', c', rfl, hr, hr'⟩ := hv.two_obj
  exact (rEqual_any ok ok a.size a b (Nat.le_refl _) h A A' n n' c c' w hr hr').mono fun e w' h => h.pure
theorem p_rEqR (a : Ob) (h : a.Wf) : Puk 19 [obA a, obA a] (boA true) := by
  obtain ⟨r, h1, h2⟩ := p_rEqO a a h
  rwa [h1.2 rfl] at h2
theorem resO_wf {o : Option Tr} (h : ∀ t, o = some t → t.ov = true) : (resO o).Wf := by
  cases o with
  | none => exact zeroO_wf
  | some t => exact (Tr.ov_ok (h t rfl)).wf (by decide)
theorem row1 (s : Sd) : [encS s] = [s].map Sd.enc := by simp [enc_S]
theorem row2 (s t : Sd) : [encS s, encS t] = [s, t].map Sd.enc := by simp [enc_S]
theorem row3 (s t u : Sd) : [encS s, encS t, encS u] = [s, t, u].map Sd.enc := by simp [enc_S]
theorem p_few1 {s : Sd} (h : s.Wf) : Puk 13 [.dt (.row [encS s])] (boA (fewW [s])) := by
  rw [row1]; exact p_few _ (by simp) (by simpa using h)
theorem p_few2 {s t : Sd} (h : s.Wf) (h' : t.Wf) : Puk 13 [.dt (.row [encS s, encS t])] (boA (fewW [s, t])) := by
  rw [row2]; exact p_few _ (by simp) (by simpa using ⟨h, h'⟩)
theorem p_few3 {s t u : Sd} (h : s.Wf) (h' : t.Wf) (h'' : u.Wf) : Puk 13 [.dt (.row [encS s, encS t, encS u])] (boA (fewW [s, t, u])) := by
  rw [row3]; exact p_few _ (by simp) (by simpa using ⟨h, h', h''⟩)
theorem Puk.calls {f : FuncId} {args : List AV} (h : Puk f args (boA true)) {W : World} (ht : Tab W) {vs : List Value} (hv : RL ⟨fun _ => none, fun _ => True⟩ W args vs) : Calls Tryz.prog f vs.toArray W (RetBel (.bool true) W) :=
  (h.2 (fun _ => True) W vs ht hv).mono fun e w' ⟨v, he, hb, hr⟩ => ⟨by rw [he, Rd.val_eq hr], hb⟩
theorem RV.ofSd {M : Mm} {w : World} {o : Sd} {A : Option Addr} {n c : Nat} (h : Rd M.F w (.slice A n c) (.row (o.l.map Sd.enc))) : RV M w (sdA o) (sdV o (.slice A n c)) :=
  ⟨_, rfl, _, _, rfl, .val _, _, _, rfl, h, rfl⟩
theorem mk_made {s : Sd} (h : s.Wf) : Puk 14 [sdA s] (trA (madeG s)) := p_made _ s (Nat.le_refl _) h
theorem made_ok (s : Sd) : (madeG s).Ok 10000 := (Tr.ov_ok (madeG_ov s)).mono (by decide)
theorem p_madeLess (s t : Sd) : Puk 22 [trA (madeG s), trA (madeG t)] (boA (Tr.less (madeG s) (madeG t))) := (p_oOLess (made_ok s) (made_ok t)).b (by rw [madeG_ov, madeG_ov]; rfl)
end Go.Proofs.YtgphkgmhcmffnaaGreatDoor
