/- Apply of both texts, on trees. -/
import Derived.Test.YtmkcnjfhdfanoaaGreatDoorKL
namespace Go.Proofs.YtmkcnjfhdfanoaaGreatDoor
open Go.RowKit

theorem rbI {k : Nat} {n : Int} (hk : 1 ≤ k) (h : n.natAbs < 10 ^ k) : Rb k (n : Rat) := ⟨by rw [Rat.num_intCast]; exact h, by rw [Rat.den_intCast]; exact Nat.lt_of_lt_of_le (by decide : 1 < 10 ^ 1) (Nat.pow_le_pow_right (by decide) hk), hk⟩
theorem truT_ok {k : Nat} (b : Bool) : (truT b).Ok k := by cases b <;> exact ⟨by decide, by decide⟩
theorem nilT_ok {k : Nat} : nilT.Ok k := ⟨by decide, by decide⟩
theorem small_ok {n : Int} (h : n.natAbs < 10 ^ 5) : (Tr.num (n : Rat)).Ok 300 := (rbI (k := 5) (by decide) h).mono (by decide)
theorem ap_ok {x y z : Tr} (hx : Arg x) (hy : Arg y) (hz : Arg z) : ∀ i : Nat, (Tr.ap i x y z).Ok 300
  | 0 => by
    show (if x = nilT then z else y).Ok 300
    split
    · exact hz.ok.mono (by decide)
    · exact hy.ok.mono (by decide)
  | 1 => truT_ok _
  | 2 => ⟨hx.ok.mono (by decide), hy.ok.mono (by decide)⟩
  | 3 => by
    have h := hx.ok
    cases x with
    | cons a d => exact h.1.mono (by decide)
    | _ => exact nilT_ok
  | 4 => by
    have h := hx.ok
    cases x with
    | cons a d => exact h.2.mono (by decide)
    | _ => exact nilT_ok
  | 5 => truT_ok _
  | 6 => truT_ok _
  | 7 => truT_ok _
  | 8 => truT_ok _
  | 9 => truT_ok _
  | 10 => (hx.rb.add hy.rb).mono (by decide)
  | 11 => (hx.rb.mul hy.rb).mono (by decide)
  | 12 => hx.rb.neg.mono (by decide)
  | 13 => hx.rb.inv.mono (by decide)
  | 14 => truT_ok _
  | 15 => (rbI (k := 120) (by decide) hx.rb.num).mono (by decide)
  | 16 => (rbI (k := 120) (n := (x.val.den : Int)) (by decide) (by rw [Int.natAbs_natCast]; exact hx.rb.den)).mono (by decide)
  | 17 => (rbI (k := 121) (by decide) (qd_lt hx)).mono (by decide)
  | 18 => by
    have h := hx.ok
    cases x with
    | sym p s => exact h.2
    | _ => exact Nat.zero_le _
  | 19 => by
    have h := hx.ok
    cases x with
    | sym p s => exact h.1
    | _ => exact Nat.zero_le _
  | 20 => by
    show (if x.isT && y.isT && symOk ⟨y.tx, x.tx⟩ then Tr.sym y.tx x.tx else nilT).Ok 300
    split
    · exact ⟨Nat.le_trans hy.tx (by decide), Nat.le_trans hx.tx (by decide)⟩
    · exact nilT_ok
  | 21 => by
    have h1 := hx.tx
    have h2 := hy.tx
    show (x.tx ++ y.tx).length ≤ 100000
    rw [List.length_append]
    omega
  | 22 => small_ok (by have := hx.tx; show x.tx.length < 100000; omega)
  | 23 => by
    show (match x.ixV y with | some n => Tr.num (((x.tx.getD n.toNat 0).toNat : Int) : Rat) | none => nilT).Ok 300
    split
    · rename_i n _
      have := (x.tx.getD n.toNat 0).toNat_lt
      exact small_ok (by show (x.tx.getD n.toNat 0).toNat < 100000; omega)
    · exact nilT_ok
  | 24 => by
    show (match x.octV with | some n => Tr.txt [UInt8.ofNat n.toNat] | none => Tr.txt []).Ok 300
    split
    · show 1 ≤ 100000
      decide
    · exact Nat.zero_le _
  | _ + 25 => nilT_ok
theorem nil_arg : Arg nilT := ⟨nilT_ok, Nat.zero_le _⟩
theorem p_oApp0 {x y z : Tr} (_ : Arg x) (_ : Arg y) (_ : Arg z)  : Puk 20 [syA lispB [105, 102], rowA [x, y, z]] (resT (Tr.apO 0 x y z)) := by
  have e : Tr.apO 0 x y z = some (if x = nilT then z else y) := rfl
  rw [e]
  by_cases h : x = nilT
  · rw [if_pos h]
    exact pwalk (an := [.av (.tup [inA 3, boA true]), .no, .no, .no, .no, .no, .no, yT, .no]) (ls := []) (ps := [Puk 15 [(syA lispB [105, 102])] (.tup [(inA 3), (boA true)]), Puk 43 [(obA x.ob)] (boA true)]) Tryz.func20 (by kernel_rfl) (by kernel_rfl) ⟨p_oAr0, (p_oIsNil x).b (decide_eq_true h), trivial⟩
  · rw [if_neg h]
    exact pwalk (an := [.av (.tup [inA 3, boA true]), .no, .no, .no, .no, .no, .no, yF]) (ls := []) (ps := [Puk 15 [(syA lispB [105, 102])] (.tup [(inA 3), (boA true)]), Puk 43 [(obA x.ob)] (boA false)]) Tryz.func20 (by kernel_rfl) (by kernel_rfl) ⟨p_oAr0, (p_oIsNil x).b (decide_eq_false h), trivial⟩
theorem p_rApp0 {x y z : Tr} (hx : Arg x) (hy : Arg y) (hz : Arg z) : Puk 21 [syA lispB [105, 102], rowA [x, y, z]] (resT (Tr.kept' (Tr.ap 0 x y z))) := by
  have hv0 := p_rValid (t := Tr.ap 0 x y z) (ap_ok hx hy hz 0) (by decide)
  have e : Tr.ap 0 x y z = if x = nilT then z else y := rfl
  rw [e] at hv0 ⊢
  by_cases h : x = nilT
  · rw [if_pos h] at hv0 ⊢
    cases hv : z.valid with
    | true =>
      rw [kept_t hv]
      exact pwalk (an := [.av (.tup [inA 3, boA true]), .no, .no, .no, .no, .no, .no, yT, .no, yT]) (ls := []) (ps := [Puk 16 [(syA lispB [105, 102])] (.tup [(inA 3), (boA true)]), Puk 39 [(obA x.ob)] (boA true), Puk 28 [(obA z.ob)] (boA true)]) Tryz.func21 (by kernel_rfl) (by kernel_rfl) ⟨p_rAr0, (p_rIsNil hx.ok (by decide)).b (decide_eq_true h), hv0.b hv, trivial⟩
    | false =>
      rw [kept_f hv]
      exact pwalk (an := [.av (.tup [inA 3, boA true]), .no, .no, .no, .no, .no, .no, yT, .no, yF]) (ls := []) (ps := [Puk 16 [(syA lispB [105, 102])] (.tup [(inA 3), (boA true)]), Puk 39 [(obA x.ob)] (boA true), Puk 28 [(obA z.ob)] (boA false)]) Tryz.func21 (by kernel_rfl) (by kernel_rfl) ⟨p_rAr0, (p_rIsNil hx.ok (by decide)).b (decide_eq_true h), hv0.b hv, trivial⟩
  · rw [if_neg h] at hv0 ⊢
    cases hv : y.valid with
    | true =>
      rw [kept_t hv]
      exact pwalk (an := [.av (.tup [inA 3, boA true]), .no, .no, .no, .no, .no, .no, yF, yT]) (ls := []) (ps := [Puk 16 [(syA lispB [105, 102])] (.tup [(inA 3), (boA true)]), Puk 39 [(obA x.ob)] (boA false), Puk 28 [(obA y.ob)] (boA true)]) Tryz.func21 (by kernel_rfl) (by kernel_rfl) ⟨p_rAr0, (p_rIsNil hx.ok (by decide)).b (decide_eq_false h), hv0.b hv, trivial⟩
    | false =>
      rw [kept_f hv]
      exact pwalk (an := [.av (.tup [inA 3, boA true]), .no, .no, .no, .no, .no, .no, yF, yF]) (ls := []) (ps := [Puk 16 [(syA lispB [105, 102])] (.tup [(inA 3), (boA true)]), Puk 39 [(obA x.ob)] (boA false), Puk 28 [(obA y.ob)] (boA false)]) Tryz.func21 (by kernel_rfl) (by kernel_rfl) ⟨p_rAr0, (p_rIsNil hx.ok (by decide)).b (decide_eq_false h), hv0.b hv, trivial⟩
theorem p_oApp1 {x y : Tr} (hx : Arg x) (_hy : Arg y) : Puk 20 [syA lispB [101, 113, 117, 97, 108], rowA [x, y]] (resT (Tr.apO 1 x y nilT)) := pwalk (an := [.av (.tup [inA 2, boA true]), .no, .no, .no, .no, .no, .no, .no, .no, .no, .no, .no, .no, .no, .av (boA (decide (x = y))), .av (trA (truT (decide (x = y))))]) (ls := []) (ps := [Puk 15 [(syA lispB [101, 113, 117, 97, 108])] (.tup [(inA 2), (boA true)]), Puk 53 [(obA x.ob), (obA y.ob)] (boA (decide (x = y))), Puk 52 [(boA (decide (x = y)))] (obA ((truT (decide (x = y))).ob))]) Tryz.func20 (by kernel_rfl) (by kernel_rfl) ⟨p_oAr1, p_oEq y hx.ok (by decide), p_oTru _, trivial⟩
theorem p_rApp1 {x y : Tr} (hx : Arg x) (hy : Arg y) : Puk 21 [syA lispB [101, 113, 117, 97, 108], rowA [x, y]] (resT (Tr.kept' (Tr.ap 1 x y nilT))) := by
  cases hv : (Tr.ap 1 x y nilT).valid with
  | true =>
    rw [kept_t hv]
    exact pwalk (an := [.av (.tup [inA 2, boA true]), .no, .no, .no, .no, .no, .no, .av (trA (Tr.ap 1 x y nilT)), yT]) (ls := []) (ps := [Puk 16 [(syA lispB [101, 113, 117, 97, 108])] (.tup [(inA 2), (boA true)]), Puk 58 [(stA [101, 113, 117, 97, 108]), (obA x.ob), (obA y.ob)] (trA (Tr.ap 1 x y nilT)), Puk 28 [(trA (Tr.ap 1 x y nilT))] (boA true)]) Tryz.func21 (by kernel_rfl) (by kernel_rfl) ⟨p_rAr1, p_rTwo1 hx hy, (p_rValid (t := Tr.ap 1 x y nilT) (ap_ok hx hy nil_arg 1) (by decide)).b hv, trivial⟩
  | false =>
    rw [kept_f hv]
    exact pwalk (an := [.av (.tup [inA 2, boA true]), .no, .no, .no, .no, .no, .no, .av (trA (Tr.ap 1 x y nilT)), yF]) (ls := []) (ps := [Puk 16 [(syA lispB [101, 113, 117, 97, 108])] (.tup [(inA 2), (boA true)]), Puk 58 [(stA [101, 113, 117, 97, 108]), (obA x.ob), (obA y.ob)] (trA (Tr.ap 1 x y nilT)), Puk 28 [(trA (Tr.ap 1 x y nilT))] (boA false)]) Tryz.func21 (by kernel_rfl) (by kernel_rfl) ⟨p_rAr1, p_rTwo1 hx hy, (p_rValid (t := Tr.ap 1 x y nilT) (ap_ok hx hy nil_arg 1) (by decide)).b hv, trivial⟩
theorem p_oApp2 {x y : Tr} (hx : Arg x) (hy : Arg y) : Puk 20 [syA lispB [99, 111, 110, 115], rowA [x, y]] (resT (Tr.apO 2 x y nilT)) := by
  have e : Tr.apO 2 x y nilT = Tr.kept' (Tr.ap 2 x y nilT) := rfl
  rw [e]
  cases hv : (Tr.ap 2 x y nilT).valid with
  | true =>
    rw [kept_t hv]
    exact pwalk (an := [.av (.tup [inA 2, boA true]), .no, .no, .no, .no, .no, .no, .no, .av (trA (.cons x y)), yT]) (ls := []) (ps := [Puk 15 [(syA lispB [99, 111, 110, 115])] (.tup [(inA 2), (boA true)]), Puk 44 [(obA x.ob), (obA y.ob)] (trA (x.cons y)), Puk 56 [(trA (x.cons y))] (boA true)]) Tryz.func20 (by kernel_rfl) (by kernel_rfl) ⟨p_oAr2, p_oCons x.ob y.ob, (p_oValid (t := Tr.ap 2 x y nilT) (ap_ok hx hy nil_arg 2) (by decide)).b hv, trivial⟩
  | false =>
    rw [kept_f hv]
    exact pwalk (an := [.av (.tup [inA 2, boA true]), .no, .no, .no, .no, .no, .no, .no, .av (trA (.cons x y)), yF]) (ls := []) (ps := [Puk 15 [(syA lispB [99, 111, 110, 115])] (.tup [(inA 2), (boA true)]), Puk 44 [(obA x.ob), (obA y.ob)] (trA (x.cons y)), Puk 56 [(trA (x.cons y))] (boA false)]) Tryz.func20 (by kernel_rfl) (by kernel_rfl) ⟨p_oAr2, p_oCons x.ob y.ob, (p_oValid (t := Tr.ap 2 x y nilT) (ap_ok hx hy nil_arg 2) (by decide)).b hv, trivial⟩
theorem p_rApp2 {x y : Tr} (hx : Arg x) (hy : Arg y) : Puk 21 [syA lispB [99, 111, 110, 115], rowA [x, y]] (resT (Tr.kept' (Tr.ap 2 x y nilT))) := by
  cases hv : (Tr.ap 2 x y nilT).valid with
  | true =>
    rw [kept_t hv]
    exact pwalk (an := [.av (.tup [inA 2, boA true]), .no, .no, .no, .no, .no, .no, .av (trA (Tr.ap 2 x y nilT)), yT]) (ls := []) (ps := [Puk 16 [(syA lispB [99, 111, 110, 115])] (.tup [(inA 2), (boA true)]), Puk 58 [(stA [99, 111, 110, 115]), (obA x.ob), (obA y.ob)] (trA (Tr.ap 2 x y nilT)), Puk 28 [(trA (Tr.ap 2 x y nilT))] (boA true)]) Tryz.func21 (by kernel_rfl) (by kernel_rfl) ⟨p_rAr2, p_rTwo2 hx hy, (p_rValid (t := Tr.ap 2 x y nilT) (ap_ok hx hy nil_arg 2) (by decide)).b hv, trivial⟩
  | false =>
    rw [kept_f hv]
    exact pwalk (an := [.av (.tup [inA 2, boA true]), .no, .no, .no, .no, .no, .no, .av (trA (Tr.ap 2 x y nilT)), yF]) (ls := []) (ps := [Puk 16 [(syA lispB [99, 111, 110, 115])] (.tup [(inA 2), (boA true)]), Puk 58 [(stA [99, 111, 110, 115]), (obA x.ob), (obA y.ob)] (trA (Tr.ap 2 x y nilT)), Puk 28 [(trA (Tr.ap 2 x y nilT))] (boA false)]) Tryz.func21 (by kernel_rfl) (by kernel_rfl) ⟨p_rAr2, p_rTwo2 hx hy, (p_rValid (t := Tr.ap 2 x y nilT) (ap_ok hx hy nil_arg 2) (by decide)).b hv, trivial⟩
theorem p_oApp3 {x : Tr} (hx : Arg x) : Puk 20 [syA lispB [99, 97, 114], rowA [x]] (resT (Tr.apO 3 x nilT nilT)) := pwalk (an := [.av (.tup [inA 1, boA true]), .no, .no, .no, .no, .no, .no, .no, .no, .no, .no, .no, .no, .no, .av (trA (Tr.ap 3 x nilT nilT))]) (ls := []) (ps := [Puk 15 [(syA lispB [99, 97, 114])] (.tup [(inA 1), (boA true)]), Puk 55 [(stA [99, 97, 114]), (obA x.ob)] (trA (Tr.ap 3 x nilT nilT))]) Tryz.func20 (by kernel_rfl) (by kernel_rfl) ⟨p_oAr3, p_oOne3 hx, trivial⟩
theorem p_rApp3 {x : Tr} (hx : Arg x) : Puk 21 [syA lispB [99, 97, 114], rowA [x]] (resT (Tr.kept' (Tr.ap 3 x nilT nilT))) := by
  cases hv : (Tr.ap 3 x nilT nilT).valid with
  | true =>
    rw [kept_t hv]
    exact pwalk (an := [.av (.tup [inA 1, boA true]), .no, .no, .no, .no, .av (trA (Tr.ap 3 x nilT nilT)), yT]) (ls := []) (ps := [Puk 16 [(syA lispB [99, 97, 114])] (.tup [(inA 1), (boA true)]), Puk 57 [(stA [99, 97, 114]), (obA x.ob)] (trA (Tr.ap 3 x nilT nilT)), Puk 28 [(trA (Tr.ap 3 x nilT nilT))] (boA true)]) Tryz.func21 (by kernel_rfl) (by kernel_rfl) ⟨p_rAr3, p_rOne3 hx, (p_rValid (t := Tr.ap 3 x nilT nilT) (ap_ok hx nil_arg nil_arg 3) (by decide)).b hv, trivial⟩
  | false =>
    rw [kept_f hv]
    exact pwalk (an := [.av (.tup [inA 1, boA true]), .no, .no, .no, .no, .av (trA (Tr.ap 3 x nilT nilT)), yF]) (ls := []) (ps := [Puk 16 [(syA lispB [99, 97, 114])] (.tup [(inA 1), (boA true)]), Puk 57 [(stA [99, 97, 114]), (obA x.ob)] (trA (Tr.ap 3 x nilT nilT)), Puk 28 [(trA (Tr.ap 3 x nilT nilT))] (boA false)]) Tryz.func21 (by kernel_rfl) (by kernel_rfl) ⟨p_rAr3, p_rOne3 hx, (p_rValid (t := Tr.ap 3 x nilT nilT) (ap_ok hx nil_arg nil_arg 3) (by decide)).b hv, trivial⟩
theorem p_oApp4 {x : Tr} (hx : Arg x) : Puk 20 [syA lispB [99, 100, 114], rowA [x]] (resT (Tr.apO 4 x nilT nilT)) := pwalk (an := [.av (.tup [inA 1, boA true]), .no, .no, .no, .no, .no, .no, .no, .no, .no, .no, .no, .no, .no, .av (trA (Tr.ap 4 x nilT nilT))]) (ls := []) (ps := [Puk 15 [(syA lispB [99, 100, 114])] (.tup [(inA 1), (boA true)]), Puk 55 [(stA [99, 100, 114]), (obA x.ob)] (trA (Tr.ap 4 x nilT nilT))]) Tryz.func20 (by kernel_rfl) (by kernel_rfl) ⟨p_oAr4, p_oOne4 hx, trivial⟩
theorem p_rApp4 {x : Tr} (hx : Arg x) : Puk 21 [syA lispB [99, 100, 114], rowA [x]] (resT (Tr.kept' (Tr.ap 4 x nilT nilT))) := by
  cases hv : (Tr.ap 4 x nilT nilT).valid with
  | true =>
    rw [kept_t hv]
    exact pwalk (an := [.av (.tup [inA 1, boA true]), .no, .no, .no, .no, .av (trA (Tr.ap 4 x nilT nilT)), yT]) (ls := []) (ps := [Puk 16 [(syA lispB [99, 100, 114])] (.tup [(inA 1), (boA true)]), Puk 57 [(stA [99, 100, 114]), (obA x.ob)] (trA (Tr.ap 4 x nilT nilT)), Puk 28 [(trA (Tr.ap 4 x nilT nilT))] (boA true)]) Tryz.func21 (by kernel_rfl) (by kernel_rfl) ⟨p_rAr4, p_rOne4 hx, (p_rValid (t := Tr.ap 4 x nilT nilT) (ap_ok hx nil_arg nil_arg 4) (by decide)).b hv, trivial⟩
  | false =>
    rw [kept_f hv]
    exact pwalk (an := [.av (.tup [inA 1, boA true]), .no, .no, .no, .no, .av (trA (Tr.ap 4 x nilT nilT)), yF]) (ls := []) (ps := [Puk 16 [(syA lispB [99, 100, 114])] (.tup [(inA 1), (boA true)]), Puk 57 [(stA [99, 100, 114]), (obA x.ob)] (trA (Tr.ap 4 x nilT nilT)), Puk 28 [(trA (Tr.ap 4 x nilT nilT))] (boA false)]) Tryz.func21 (by kernel_rfl) (by kernel_rfl) ⟨p_rAr4, p_rOne4 hx, (p_rValid (t := Tr.ap 4 x nilT nilT) (ap_ok hx nil_arg nil_arg 4) (by decide)).b hv, trivial⟩
theorem p_oApp5 {x : Tr} (hx : Arg x) : Puk 20 [syA lispB [99, 111, 110, 115, 112], rowA [x]] (resT (Tr.apO 5 x nilT nilT)) := pwalk (an := [.av (.tup [inA 1, boA true]), .no, .no, .no, .no, .no, .no, .no, .no, .no, .no, .no, .no, .no, .av (trA (Tr.ap 5 x nilT nilT))]) (ls := []) (ps := [Puk 15 [(syA lispB [99, 111, 110, 115, 112])] (.tup [(inA 1), (boA true)]), Puk 55 [(stA [99, 111, 110, 115, 112]), (obA x.ob)] (trA (Tr.ap 5 x nilT nilT))]) Tryz.func20 (by kernel_rfl) (by kernel_rfl) ⟨p_oAr5, p_oOne5 hx, trivial⟩
theorem p_rApp5 {x : Tr} (hx : Arg x) : Puk 21 [syA lispB [99, 111, 110, 115, 112], rowA [x]] (resT (Tr.kept' (Tr.ap 5 x nilT nilT))) := by
  cases hv : (Tr.ap 5 x nilT nilT).valid with
  | true =>
    rw [kept_t hv]
    exact pwalk (an := [.av (.tup [inA 1, boA true]), .no, .no, .no, .no, .av (trA (Tr.ap 5 x nilT nilT)), yT]) (ls := []) (ps := [Puk 16 [(syA lispB [99, 111, 110, 115, 112])] (.tup [(inA 1), (boA true)]), Puk 57 [(stA [99, 111, 110, 115, 112]), (obA x.ob)] (trA (Tr.ap 5 x nilT nilT)), Puk 28 [(trA (Tr.ap 5 x nilT nilT))] (boA true)]) Tryz.func21 (by kernel_rfl) (by kernel_rfl) ⟨p_rAr5, p_rOne5 hx, (p_rValid (t := Tr.ap 5 x nilT nilT) (ap_ok hx nil_arg nil_arg 5) (by decide)).b hv, trivial⟩
  | false =>
    rw [kept_f hv]
    exact pwalk (an := [.av (.tup [inA 1, boA true]), .no, .no, .no, .no, .av (trA (Tr.ap 5 x nilT nilT)), yF]) (ls := []) (ps := [Puk 16 [(syA lispB [99, 111, 110, 115, 112])] (.tup [(inA 1), (boA true)]), Puk 57 [(stA [99, 111, 110, 115, 112]), (obA x.ob)] (trA (Tr.ap 5 x nilT nilT)), Puk 28 [(trA (Tr.ap 5 x nilT nilT))] (boA false)]) Tryz.func21 (by kernel_rfl) (by kernel_rfl) ⟨p_rAr5, p_rOne5 hx, (p_rValid (t := Tr.ap 5 x nilT nilT) (ap_ok hx nil_arg nil_arg 5) (by decide)).b hv, trivial⟩
theorem p_oApp6 {x : Tr} (hx : Arg x) : Puk 20 [syA lispB [115, 121, 109, 98, 111, 108, 112], rowA [x]] (resT (Tr.apO 6 x nilT nilT)) := pwalk (an := [.av (.tup [inA 1, boA true]), .no, .no, .no, .no, .no, .no, .no, .no, .no, .no, .no, .no, .no, .av (trA (Tr.ap 6 x nilT nilT))]) (ls := []) (ps := [Puk 15 [(syA lispB [115, 121, 109, 98, 111, 108, 112])] (.tup [(inA 1), (boA true)]), Puk 55 [(stA [115, 121, 109, 98, 111, 108, 112]), (obA x.ob)] (trA (Tr.ap 6 x nilT nilT))]) Tryz.func20 (by kernel_rfl) (by kernel_rfl) ⟨p_oAr6, p_oOne6 hx, trivial⟩
theorem p_rApp6 {x : Tr} (hx : Arg x) : Puk 21 [syA lispB [115, 121, 109, 98, 111, 108, 112], rowA [x]] (resT (Tr.kept' (Tr.ap 6 x nilT nilT))) := by
  cases hv : (Tr.ap 6 x nilT nilT).valid with
  | true =>
    rw [kept_t hv]
    exact pwalk (an := [.av (.tup [inA 1, boA true]), .no, .no, .no, .no, .av (trA (Tr.ap 6 x nilT nilT)), yT]) (ls := []) (ps := [Puk 16 [(syA lispB [115, 121, 109, 98, 111, 108, 112])] (.tup [(inA 1), (boA true)]), Puk 57 [(stA [115, 121, 109, 98, 111, 108, 112]), (obA x.ob)] (trA (Tr.ap 6 x nilT nilT)), Puk 28 [(trA (Tr.ap 6 x nilT nilT))] (boA true)]) Tryz.func21 (by kernel_rfl) (by kernel_rfl) ⟨p_rAr6, p_rOne6 hx, (p_rValid (t := Tr.ap 6 x nilT nilT) (ap_ok hx nil_arg nil_arg 6) (by decide)).b hv, trivial⟩
  | false =>
    rw [kept_f hv]
    exact pwalk (an := [.av (.tup [inA 1, boA true]), .no, .no, .no, .no, .av (trA (Tr.ap 6 x nilT nilT)), yF]) (ls := []) (ps := [Puk 16 [(syA lispB [115, 121, 109, 98, 111, 108, 112])] (.tup [(inA 1), (boA true)]), Puk 57 [(stA [115, 121, 109, 98, 111, 108, 112]), (obA x.ob)] (trA (Tr.ap 6 x nilT nilT)), Puk 28 [(trA (Tr.ap 6 x nilT nilT))] (boA false)]) Tryz.func21 (by kernel_rfl) (by kernel_rfl) ⟨p_rAr6, p_rOne6 hx, (p_rValid (t := Tr.ap 6 x nilT nilT) (ap_ok hx nil_arg nil_arg 6) (by decide)).b hv, trivial⟩
theorem p_oApp7 {x : Tr} (hx : Arg x) : Puk 20 [syA lispB [115, 116, 114, 105, 110, 103, 112], rowA [x]] (resT (Tr.apO 7 x nilT nilT)) := pwalk (an := [.av (.tup [inA 1, boA true]), .no, .no, .no, .no, .no, .no, .no, .no, .no, .no, .no, .no, .no, .av (trA (Tr.ap 7 x nilT nilT))]) (ls := []) (ps := [Puk 15 [(syA lispB [115, 116, 114, 105, 110, 103, 112])] (.tup [(inA 1), (boA true)]), Puk 55 [(stA [115, 116, 114, 105, 110, 103, 112]), (obA x.ob)] (trA (Tr.ap 7 x nilT nilT))]) Tryz.func20 (by kernel_rfl) (by kernel_rfl) ⟨p_oAr7, p_oOne7 hx, trivial⟩
theorem p_rApp7 {x : Tr} (hx : Arg x) : Puk 21 [syA lispB [115, 116, 114, 105, 110, 103, 112], rowA [x]] (resT (Tr.kept' (Tr.ap 7 x nilT nilT))) := by
  cases hv : (Tr.ap 7 x nilT nilT).valid with
  | true =>
    rw [kept_t hv]
    exact pwalk (an := [.av (.tup [inA 1, boA true]), .no, .no, .no, .no, .av (trA (Tr.ap 7 x nilT nilT)), yT]) (ls := []) (ps := [Puk 16 [(syA lispB [115, 116, 114, 105, 110, 103, 112])] (.tup [(inA 1), (boA true)]), Puk 57 [(stA [115, 116, 114, 105, 110, 103, 112]), (obA x.ob)] (trA (Tr.ap 7 x nilT nilT)), Puk 28 [(trA (Tr.ap 7 x nilT nilT))] (boA true)]) Tryz.func21 (by kernel_rfl) (by kernel_rfl) ⟨p_rAr7, p_rOne7 hx, (p_rValid (t := Tr.ap 7 x nilT nilT) (ap_ok hx nil_arg nil_arg 7) (by decide)).b hv, trivial⟩
  | false =>
    rw [kept_f hv]
    exact pwalk (an := [.av (.tup [inA 1, boA true]), .no, .no, .no, .no, .av (trA (Tr.ap 7 x nilT nilT)), yF]) (ls := []) (ps := [Puk 16 [(syA lispB [115, 116, 114, 105, 110, 103, 112])] (.tup [(inA 1), (boA true)]), Puk 57 [(stA [115, 116, 114, 105, 110, 103, 112]), (obA x.ob)] (trA (Tr.ap 7 x nilT nilT)), Puk 28 [(trA (Tr.ap 7 x nilT nilT))] (boA false)]) Tryz.func21 (by kernel_rfl) (by kernel_rfl) ⟨p_rAr7, p_rOne7 hx, (p_rValid (t := Tr.ap 7 x nilT nilT) (ap_ok hx nil_arg nil_arg 7) (by decide)).b hv, trivial⟩
theorem p_oApp8 {x : Tr} (hx : Arg x) : Puk 20 [syA lispB [114, 97, 116, 105, 111, 110, 97, 108, 112], rowA [x]] (resT (Tr.apO 8 x nilT nilT)) := pwalk (an := [.av (.tup [inA 1, boA true]), .no, .no, .no, .no, .no, .no, .no, .no, .no, .no, .no, .no, .no, .av (trA (Tr.ap 8 x nilT nilT))]) (ls := []) (ps := [Puk 15 [(syA lispB [114, 97, 116, 105, 111, 110, 97, 108, 112])] (.tup [(inA 1), (boA true)]), Puk 55 [(stA [114, 97, 116, 105, 111, 110, 97, 108, 112]), (obA x.ob)] (trA (Tr.ap 8 x nilT nilT))]) Tryz.func20 (by kernel_rfl) (by kernel_rfl) ⟨p_oAr8, p_oOne8 hx, trivial⟩
theorem p_rApp8 {x : Tr} (hx : Arg x) : Puk 21 [syA lispB [114, 97, 116, 105, 111, 110, 97, 108, 112], rowA [x]] (resT (Tr.kept' (Tr.ap 8 x nilT nilT))) := by
  cases hv : (Tr.ap 8 x nilT nilT).valid with
  | true =>
    rw [kept_t hv]
    exact pwalk (an := [.av (.tup [inA 1, boA true]), .no, .no, .no, .no, .av (trA (Tr.ap 8 x nilT nilT)), yT]) (ls := []) (ps := [Puk 16 [(syA lispB [114, 97, 116, 105, 111, 110, 97, 108, 112])] (.tup [(inA 1), (boA true)]), Puk 57 [(stA [114, 97, 116, 105, 111, 110, 97, 108, 112]), (obA x.ob)] (trA (Tr.ap 8 x nilT nilT)), Puk 28 [(trA (Tr.ap 8 x nilT nilT))] (boA true)]) Tryz.func21 (by kernel_rfl) (by kernel_rfl) ⟨p_rAr8, p_rOne8 hx, (p_rValid (t := Tr.ap 8 x nilT nilT) (ap_ok hx nil_arg nil_arg 8) (by decide)).b hv, trivial⟩
  | false =>
    rw [kept_f hv]
    exact pwalk (an := [.av (.tup [inA 1, boA true]), .no, .no, .no, .no, .av (trA (Tr.ap 8 x nilT nilT)), yF]) (ls := []) (ps := [Puk 16 [(syA lispB [114, 97, 116, 105, 111, 110, 97, 108, 112])] (.tup [(inA 1), (boA true)]), Puk 57 [(stA [114, 97, 116, 105, 111, 110, 97, 108, 112]), (obA x.ob)] (trA (Tr.ap 8 x nilT nilT)), Puk 28 [(trA (Tr.ap 8 x nilT nilT))] (boA false)]) Tryz.func21 (by kernel_rfl) (by kernel_rfl) ⟨p_rAr8, p_rOne8 hx, (p_rValid (t := Tr.ap 8 x nilT nilT) (ap_ok hx nil_arg nil_arg 8) (by decide)).b hv, trivial⟩
theorem p_oApp9 {x : Tr} (hx : Arg x) : Puk 20 [syA lispB [105, 110, 116, 101, 103, 101, 114, 112], rowA [x]] (resT (Tr.apO 9 x nilT nilT)) := pwalk (an := [.av (.tup [inA 1, boA true]), .no, .no, .no, .no, .no, .no, .no, .no, .no, .no, .no, .no, .no, .av (trA (Tr.ap 9 x nilT nilT))]) (ls := []) (ps := [Puk 15 [(syA lispB [105, 110, 116, 101, 103, 101, 114, 112])] (.tup [(inA 1), (boA true)]), Puk 55 [(stA [105, 110, 116, 101, 103, 101, 114, 112]), (obA x.ob)] (trA (Tr.ap 9 x nilT nilT))]) Tryz.func20 (by kernel_rfl) (by kernel_rfl) ⟨p_oAr9, p_oOne9 hx, trivial⟩
theorem p_rApp9 {x : Tr} (hx : Arg x) : Puk 21 [syA lispB [105, 110, 116, 101, 103, 101, 114, 112], rowA [x]] (resT (Tr.kept' (Tr.ap 9 x nilT nilT))) := by
  cases hv : (Tr.ap 9 x nilT nilT).valid with
  | true =>
    rw [kept_t hv]
    exact pwalk (an := [.av (.tup [inA 1, boA true]), .no, .no, .no, .no, .av (trA (Tr.ap 9 x nilT nilT)), yT]) (ls := []) (ps := [Puk 16 [(syA lispB [105, 110, 116, 101, 103, 101, 114, 112])] (.tup [(inA 1), (boA true)]), Puk 57 [(stA [105, 110, 116, 101, 103, 101, 114, 112]), (obA x.ob)] (trA (Tr.ap 9 x nilT nilT)), Puk 28 [(trA (Tr.ap 9 x nilT nilT))] (boA true)]) Tryz.func21 (by kernel_rfl) (by kernel_rfl) ⟨p_rAr9, p_rOne9 hx, (p_rValid (t := Tr.ap 9 x nilT nilT) (ap_ok hx nil_arg nil_arg 9) (by decide)).b hv, trivial⟩
  | false =>
    rw [kept_f hv]
    exact pwalk (an := [.av (.tup [inA 1, boA true]), .no, .no, .no, .no, .av (trA (Tr.ap 9 x nilT nilT)), yF]) (ls := []) (ps := [Puk 16 [(syA lispB [105, 110, 116, 101, 103, 101, 114, 112])] (.tup [(inA 1), (boA true)]), Puk 57 [(stA [105, 110, 116, 101, 103, 101, 114, 112]), (obA x.ob)] (trA (Tr.ap 9 x nilT nilT)), Puk 28 [(trA (Tr.ap 9 x nilT nilT))] (boA false)]) Tryz.func21 (by kernel_rfl) (by kernel_rfl) ⟨p_rAr9, p_rOne9 hx, (p_rValid (t := Tr.ap 9 x nilT nilT) (ap_ok hx nil_arg nil_arg 9) (by decide)).b hv, trivial⟩
theorem p_oApp10 {x y : Tr} (hx : Arg x) (hy : Arg y) : Puk 20 [syA lispB [98, 105, 110, 97, 114, 121, 45, 43], rowA [x, y]] (resT (Tr.apO 10 x y nilT)) := by
  have e : Tr.apO 10 x y nilT = Tr.kept' (Tr.ap 10 x y nilT) := rfl
  rw [e]
  cases hv : (Tr.ap 10 x y nilT).valid with
  | true =>
    rw [kept_t hv]
    exact pwalk (an := [.av (.tup [inA 2, boA true]), .no, .no, .no, .no, .no, .no, .no, .no, .av (trA (.num (x.val + y.val))), yT]) (ls := []) (ps := [Puk 15 [(syA lispB [98, 105, 110, 97, 114, 121, 45, 43])] (.tup [(inA 2), (boA true)]), Puk 45 [(obA x.ob), (obA y.ob)] (obA ((Tr.num (x.val + y.val)).ob)), Puk 56 [(obA ((Tr.num (x.val + y.val)).ob))] (boA true)]) Tryz.func20 (by kernel_rfl) (by kernel_rfl) ⟨p_oAr10, p_oSum hx.ok hy.ok (by decide) (by decide), (p_oValid (t := Tr.ap 10 x y nilT) (ap_ok hx hy nil_arg 10) (by decide)).b hv, trivial⟩
  | false =>
    rw [kept_f hv]
    exact pwalk (an := [.av (.tup [inA 2, boA true]), .no, .no, .no, .no, .no, .no, .no, .no, .av (trA (.num (x.val + y.val))), yF]) (ls := []) (ps := [Puk 15 [(syA lispB [98, 105, 110, 97, 114, 121, 45, 43])] (.tup [(inA 2), (boA true)]), Puk 45 [(obA x.ob), (obA y.ob)] (obA ((Tr.num (x.val + y.val)).ob)), Puk 56 [(obA ((Tr.num (x.val + y.val)).ob))] (boA false)]) Tryz.func20 (by kernel_rfl) (by kernel_rfl) ⟨p_oAr10, p_oSum hx.ok hy.ok (by decide) (by decide), (p_oValid (t := Tr.ap 10 x y nilT) (ap_ok hx hy nil_arg 10) (by decide)).b hv, trivial⟩
theorem p_rApp10 {x y : Tr} (hx : Arg x) (hy : Arg y) : Puk 21 [syA lispB [98, 105, 110, 97, 114, 121, 45, 43], rowA [x, y]] (resT (Tr.kept' (Tr.ap 10 x y nilT))) := by
  cases hv : (Tr.ap 10 x y nilT).valid with
  | true =>
    rw [kept_t hv]
    exact pwalk (an := [.av (.tup [inA 2, boA true]), .no, .no, .no, .no, .no, .no, .av (trA (Tr.ap 10 x y nilT)), yT]) (ls := []) (ps := [Puk 16 [(syA lispB [98, 105, 110, 97, 114, 121, 45, 43])] (.tup [(inA 2), (boA true)]), Puk 58 [(stA [98, 105, 110, 97, 114, 121, 45, 43]), (obA x.ob), (obA y.ob)] (trA (Tr.ap 10 x y nilT)), Puk 28 [(trA (Tr.ap 10 x y nilT))] (boA true)]) Tryz.func21 (by kernel_rfl) (by kernel_rfl) ⟨p_rAr10, p_rTwo10 hx hy, (p_rValid (t := Tr.ap 10 x y nilT) (ap_ok hx hy nil_arg 10) (by decide)).b hv, trivial⟩
  | false =>
    rw [kept_f hv]
    exact pwalk (an := [.av (.tup [inA 2, boA true]), .no, .no, .no, .no, .no, .no, .av (trA (Tr.ap 10 x y nilT)), yF]) (ls := []) (ps := [Puk 16 [(syA lispB [98, 105, 110, 97, 114, 121, 45, 43])] (.tup [(inA 2), (boA true)]), Puk 58 [(stA [98, 105, 110, 97, 114, 121, 45, 43]), (obA x.ob), (obA y.ob)] (trA (Tr.ap 10 x y nilT)), Puk 28 [(trA (Tr.ap 10 x y nilT))] (boA false)]) Tryz.func21 (by kernel_rfl) (by kernel_rfl) ⟨p_rAr10, p_rTwo10 hx hy, (p_rValid (t := Tr.ap 10 x y nilT) (ap_ok hx hy nil_arg 10) (by decide)).b hv, trivial⟩
theorem p_oApp11 {x y : Tr} (hx : Arg x) (hy : Arg y) : Puk 20 [syA lispB [98, 105, 110, 97, 114, 121, 45, 42], rowA [x, y]] (resT (Tr.apO 11 x y nilT)) := by
  have e : Tr.apO 11 x y nilT = Tr.kept' (Tr.ap 11 x y nilT) := rfl
  rw [e]
  cases hv : (Tr.ap 11 x y nilT).valid with
  | true =>
    rw [kept_t hv]
    exact pwalk (an := [.av (.tup [inA 2, boA true]), .no, .no, .no, .no, .no, .no, .no, .no, .no, .av (trA (.num (x.val * y.val))), yT]) (ls := []) (ps := [Puk 15 [(syA lispB [98, 105, 110, 97, 114, 121, 45, 42])] (.tup [(inA 2), (boA true)]), Puk 46 [(obA x.ob), (obA y.ob)] (obA ((Tr.num (x.val * y.val)).ob)), Puk 56 [(obA ((Tr.num (x.val * y.val)).ob))] (boA true)]) Tryz.func20 (by kernel_rfl) (by kernel_rfl) ⟨p_oAr11, p_oProd hx.ok hy.ok (by decide) (by decide), (p_oValid (t := Tr.ap 11 x y nilT) (ap_ok hx hy nil_arg 11) (by decide)).b hv, trivial⟩
  | false =>
    rw [kept_f hv]
    exact pwalk (an := [.av (.tup [inA 2, boA true]), .no, .no, .no, .no, .no, .no, .no, .no, .no, .av (trA (.num (x.val * y.val))), yF]) (ls := []) (ps := [Puk 15 [(syA lispB [98, 105, 110, 97, 114, 121, 45, 42])] (.tup [(inA 2), (boA true)]), Puk 46 [(obA x.ob), (obA y.ob)] (obA ((Tr.num (x.val * y.val)).ob)), Puk 56 [(obA ((Tr.num (x.val * y.val)).ob))] (boA false)]) Tryz.func20 (by kernel_rfl) (by kernel_rfl) ⟨p_oAr11, p_oProd hx.ok hy.ok (by decide) (by decide), (p_oValid (t := Tr.ap 11 x y nilT) (ap_ok hx hy nil_arg 11) (by decide)).b hv, trivial⟩
theorem p_rApp11 {x y : Tr} (hx : Arg x) (hy : Arg y) : Puk 21 [syA lispB [98, 105, 110, 97, 114, 121, 45, 42], rowA [x, y]] (resT (Tr.kept' (Tr.ap 11 x y nilT))) := by
  cases hv : (Tr.ap 11 x y nilT).valid with
  | true =>
    rw [kept_t hv]
    exact pwalk (an := [.av (.tup [inA 2, boA true]), .no, .no, .no, .no, .no, .no, .av (trA (Tr.ap 11 x y nilT)), yT]) (ls := []) (ps := [Puk 16 [(syA lispB [98, 105, 110, 97, 114, 121, 45, 42])] (.tup [(inA 2), (boA true)]), Puk 58 [(stA [98, 105, 110, 97, 114, 121, 45, 42]), (obA x.ob), (obA y.ob)] (trA (Tr.ap 11 x y nilT)), Puk 28 [(trA (Tr.ap 11 x y nilT))] (boA true)]) Tryz.func21 (by kernel_rfl) (by kernel_rfl) ⟨p_rAr11, p_rTwo11 hx hy, (p_rValid (t := Tr.ap 11 x y nilT) (ap_ok hx hy nil_arg 11) (by decide)).b hv, trivial⟩
  | false =>
    rw [kept_f hv]
    exact pwalk (an := [.av (.tup [inA 2, boA true]), .no, .no, .no, .no, .no, .no, .av (trA (Tr.ap 11 x y nilT)), yF]) (ls := []) (ps := [Puk 16 [(syA lispB [98, 105, 110, 97, 114, 121, 45, 42])] (.tup [(inA 2), (boA true)]), Puk 58 [(stA [98, 105, 110, 97, 114, 121, 45, 42]), (obA x.ob), (obA y.ob)] (trA (Tr.ap 11 x y nilT)), Puk 28 [(trA (Tr.ap 11 x y nilT))] (boA false)]) Tryz.func21 (by kernel_rfl) (by kernel_rfl) ⟨p_rAr11, p_rTwo11 hx hy, (p_rValid (t := Tr.ap 11 x y nilT) (ap_ok hx hy nil_arg 11) (by decide)).b hv, trivial⟩
theorem p_oApp12 {x : Tr} (hx : Arg x) : Puk 20 [syA lispB [117, 110, 97, 114, 121, 45, 45], rowA [x]] (resT (Tr.apO 12 x nilT nilT)) := pwalk (an := [.av (.tup [inA 1, boA true]), .no, .no, .no, .no, .no, .no, .no, .no, .no, .no, .no, .no, .no, .av (trA (Tr.ap 12 x nilT nilT))]) (ls := []) (ps := [Puk 15 [(syA lispB [117, 110, 97, 114, 121, 45, 45])] (.tup [(inA 1), (boA true)]), Puk 55 [(stA [117, 110, 97, 114, 121, 45, 45]), (obA x.ob)] (trA (Tr.ap 12 x nilT nilT))]) Tryz.func20 (by kernel_rfl) (by kernel_rfl) ⟨p_oAr12, p_oOne12 hx, trivial⟩
theorem p_rApp12 {x : Tr} (hx : Arg x) : Puk 21 [syA lispB [117, 110, 97, 114, 121, 45, 45], rowA [x]] (resT (Tr.kept' (Tr.ap 12 x nilT nilT))) := by
  cases hv : (Tr.ap 12 x nilT nilT).valid with
  | true =>
    rw [kept_t hv]
    exact pwalk (an := [.av (.tup [inA 1, boA true]), .no, .no, .no, .no, .av (trA (Tr.ap 12 x nilT nilT)), yT]) (ls := []) (ps := [Puk 16 [(syA lispB [117, 110, 97, 114, 121, 45, 45])] (.tup [(inA 1), (boA true)]), Puk 57 [(stA [117, 110, 97, 114, 121, 45, 45]), (obA x.ob)] (trA (Tr.ap 12 x nilT nilT)), Puk 28 [(trA (Tr.ap 12 x nilT nilT))] (boA true)]) Tryz.func21 (by kernel_rfl) (by kernel_rfl) ⟨p_rAr12, p_rOne12 hx, (p_rValid (t := Tr.ap 12 x nilT nilT) (ap_ok hx nil_arg nil_arg 12) (by decide)).b hv, trivial⟩
  | false =>
    rw [kept_f hv]
    exact pwalk (an := [.av (.tup [inA 1, boA true]), .no, .no, .no, .no, .av (trA (Tr.ap 12 x nilT nilT)), yF]) (ls := []) (ps := [Puk 16 [(syA lispB [117, 110, 97, 114, 121, 45, 45])] (.tup [(inA 1), (boA true)]), Puk 57 [(stA [117, 110, 97, 114, 121, 45, 45]), (obA x.ob)] (trA (Tr.ap 12 x nilT nilT)), Puk 28 [(trA (Tr.ap 12 x nilT nilT))] (boA false)]) Tryz.func21 (by kernel_rfl) (by kernel_rfl) ⟨p_rAr12, p_rOne12 hx, (p_rValid (t := Tr.ap 12 x nilT nilT) (ap_ok hx nil_arg nil_arg 12) (by decide)).b hv, trivial⟩
theorem p_oApp13 {x : Tr} (hx : Arg x) : Puk 20 [syA lispB [117, 110, 97, 114, 121, 45, 47], rowA [x]] (resT (Tr.apO 13 x nilT nilT)) := pwalk (an := [.av (.tup [inA 1, boA true]), .no, .no, .no, .no, .no, .no, .no, .no, .no, .no, .no, .no, .no, .av (trA (Tr.ap 13 x nilT nilT))]) (ls := []) (ps := [Puk 15 [(syA lispB [117, 110, 97, 114, 121, 45, 47])] (.tup [(inA 1), (boA true)]), Puk 55 [(stA [117, 110, 97, 114, 121, 45, 47]), (obA x.ob)] (trA (Tr.ap 13 x nilT nilT))]) Tryz.func20 (by kernel_rfl) (by kernel_rfl) ⟨p_oAr13, p_oOne13 hx, trivial⟩
theorem p_rApp13 {x : Tr} (hx : Arg x) : Puk 21 [syA lispB [117, 110, 97, 114, 121, 45, 47], rowA [x]] (resT (Tr.kept' (Tr.ap 13 x nilT nilT))) := by
  cases hv : (Tr.ap 13 x nilT nilT).valid with
  | true =>
    rw [kept_t hv]
    exact pwalk (an := [.av (.tup [inA 1, boA true]), .no, .no, .no, .no, .av (trA (Tr.ap 13 x nilT nilT)), yT]) (ls := []) (ps := [Puk 16 [(syA lispB [117, 110, 97, 114, 121, 45, 47])] (.tup [(inA 1), (boA true)]), Puk 57 [(stA [117, 110, 97, 114, 121, 45, 47]), (obA x.ob)] (trA (Tr.ap 13 x nilT nilT)), Puk 28 [(trA (Tr.ap 13 x nilT nilT))] (boA true)]) Tryz.func21 (by kernel_rfl) (by kernel_rfl) ⟨p_rAr13, p_rOne13 hx, (p_rValid (t := Tr.ap 13 x nilT nilT) (ap_ok hx nil_arg nil_arg 13) (by decide)).b hv, trivial⟩
  | false =>
    rw [kept_f hv]
    exact pwalk (an := [.av (.tup [inA 1, boA true]), .no, .no, .no, .no, .av (trA (Tr.ap 13 x nilT nilT)), yF]) (ls := []) (ps := [Puk 16 [(syA lispB [117, 110, 97, 114, 121, 45, 47])] (.tup [(inA 1), (boA true)]), Puk 57 [(stA [117, 110, 97, 114, 121, 45, 47]), (obA x.ob)] (trA (Tr.ap 13 x nilT nilT)), Puk 28 [(trA (Tr.ap 13 x nilT nilT))] (boA false)]) Tryz.func21 (by kernel_rfl) (by kernel_rfl) ⟨p_rAr13, p_rOne13 hx, (p_rValid (t := Tr.ap 13 x nilT nilT) (ap_ok hx nil_arg nil_arg 13) (by decide)).b hv, trivial⟩
theorem p_oApp14 {x y : Tr} (hx : Arg x) (hy : Arg y) : Puk 20 [syA lispB [60], rowA [x, y]] (resT (Tr.apO 14 x y nilT)) := pwalk (an := [.av (.tup [inA 2, boA true]), .no, .no, .no, .no, .no, .no, .no, .no, .no, .no, .no, .no, .no, .no, .av (boA (decide (x.val < y.val))), .av (trA (truT (decide (x.val < y.val))))]) (ls := []) (ps := [Puk 15 [(syA lispB [60])] (.tup [(inA 2), (boA true)]), Puk 54 [(obA x.ob), (obA y.ob)] (boA (decide (x.val < y.val))), Puk 52 [(boA (decide (x.val < y.val)))] (obA ((truT (decide (x.val < y.val))).ob))]) Tryz.func20 (by kernel_rfl) (by kernel_rfl) ⟨p_oAr14, p_oLessN hx.ok hy.ok (by decide) (by decide), p_oTru _, trivial⟩
theorem p_rApp14 {x y : Tr} (hx : Arg x) (hy : Arg y) : Puk 21 [syA lispB [60], rowA [x, y]] (resT (Tr.kept' (Tr.ap 14 x y nilT))) := by
  cases hv : (Tr.ap 14 x y nilT).valid with
  | true =>
    rw [kept_t hv]
    exact pwalk (an := [.av (.tup [inA 2, boA true]), .no, .no, .no, .no, .no, .no, .av (trA (Tr.ap 14 x y nilT)), yT]) (ls := []) (ps := [Puk 16 [(syA lispB [60])] (.tup [(inA 2), (boA true)]), Puk 58 [(stA [60]), (obA x.ob), (obA y.ob)] (trA (Tr.ap 14 x y nilT)), Puk 28 [(trA (Tr.ap 14 x y nilT))] (boA true)]) Tryz.func21 (by kernel_rfl) (by kernel_rfl) ⟨p_rAr14, p_rTwo14 hx hy, (p_rValid (t := Tr.ap 14 x y nilT) (ap_ok hx hy nil_arg 14) (by decide)).b hv, trivial⟩
  | false =>
    rw [kept_f hv]
    exact pwalk (an := [.av (.tup [inA 2, boA true]), .no, .no, .no, .no, .no, .no, .av (trA (Tr.ap 14 x y nilT)), yF]) (ls := []) (ps := [Puk 16 [(syA lispB [60])] (.tup [(inA 2), (boA true)]), Puk 58 [(stA [60]), (obA x.ob), (obA y.ob)] (trA (Tr.ap 14 x y nilT)), Puk 28 [(trA (Tr.ap 14 x y nilT))] (boA false)]) Tryz.func21 (by kernel_rfl) (by kernel_rfl) ⟨p_rAr14, p_rTwo14 hx hy, (p_rValid (t := Tr.ap 14 x y nilT) (ap_ok hx hy nil_arg 14) (by decide)).b hv, trivial⟩
theorem p_oApp15 {x : Tr} (hx : Arg x) : Puk 20 [syA lispB [110, 117, 109, 101, 114, 97, 116, 111, 114], rowA [x]] (resT (Tr.apO 15 x nilT nilT)) := pwalk (an := [.av (.tup [inA 1, boA true]), .no, .no, .no, .no, .no, .no, .no, .no, .no, .no, .no, .no, .no, .av (trA (Tr.ap 15 x nilT nilT))]) (ls := []) (ps := [Puk 15 [(syA lispB [110, 117, 109, 101, 114, 97, 116, 111, 114])] (.tup [(inA 1), (boA true)]), Puk 55 [(stA [110, 117, 109, 101, 114, 97, 116, 111, 114]), (obA x.ob)] (trA (Tr.ap 15 x nilT nilT))]) Tryz.func20 (by kernel_rfl) (by kernel_rfl) ⟨p_oAr15, p_oOne15 hx, trivial⟩
theorem p_rApp15 {x : Tr} (hx : Arg x) : Puk 21 [syA lispB [110, 117, 109, 101, 114, 97, 116, 111, 114], rowA [x]] (resT (Tr.kept' (Tr.ap 15 x nilT nilT))) := by
  cases hv : (Tr.ap 15 x nilT nilT).valid with
  | true =>
    rw [kept_t hv]
    exact pwalk (an := [.av (.tup [inA 1, boA true]), .no, .no, .no, .no, .av (trA (Tr.ap 15 x nilT nilT)), yT]) (ls := []) (ps := [Puk 16 [(syA lispB [110, 117, 109, 101, 114, 97, 116, 111, 114])] (.tup [(inA 1), (boA true)]), Puk 57 [(stA [110, 117, 109, 101, 114, 97, 116, 111, 114]), (obA x.ob)] (trA (Tr.ap 15 x nilT nilT)), Puk 28 [(trA (Tr.ap 15 x nilT nilT))] (boA true)]) Tryz.func21 (by kernel_rfl) (by kernel_rfl) ⟨p_rAr15, p_rOne15 hx, (p_rValid (t := Tr.ap 15 x nilT nilT) (ap_ok hx nil_arg nil_arg 15) (by decide)).b hv, trivial⟩
  | false =>
    rw [kept_f hv]
    exact pwalk (an := [.av (.tup [inA 1, boA true]), .no, .no, .no, .no, .av (trA (Tr.ap 15 x nilT nilT)), yF]) (ls := []) (ps := [Puk 16 [(syA lispB [110, 117, 109, 101, 114, 97, 116, 111, 114])] (.tup [(inA 1), (boA true)]), Puk 57 [(stA [110, 117, 109, 101, 114, 97, 116, 111, 114]), (obA x.ob)] (trA (Tr.ap 15 x nilT nilT)), Puk 28 [(trA (Tr.ap 15 x nilT nilT))] (boA false)]) Tryz.func21 (by kernel_rfl) (by kernel_rfl) ⟨p_rAr15, p_rOne15 hx, (p_rValid (t := Tr.ap 15 x nilT nilT) (ap_ok hx nil_arg nil_arg 15) (by decide)).b hv, trivial⟩
theorem p_oApp16 {x : Tr} (hx : Arg x) : Puk 20 [syA lispB [100, 101, 110, 111, 109, 105, 110, 97, 116, 111, 114], rowA [x]] (resT (Tr.apO 16 x nilT nilT)) := pwalk (an := [.av (.tup [inA 1, boA true]), .no, .no, .no, .no, .no, .no, .no, .no, .no, .no, .no, .no, .no, .av (trA (Tr.ap 16 x nilT nilT))]) (ls := []) (ps := [Puk 15 [(syA lispB [100, 101, 110, 111, 109, 105, 110, 97, 116, 111, 114])] (.tup [(inA 1), (boA true)]), Puk 55 [(stA [100, 101, 110, 111, 109, 105, 110, 97, 116, 111, 114]), (obA x.ob)] (trA (Tr.ap 16 x nilT nilT))]) Tryz.func20 (by kernel_rfl) (by kernel_rfl) ⟨p_oAr16, p_oOne16 hx, trivial⟩
theorem p_rApp16 {x : Tr} (hx : Arg x) : Puk 21 [syA lispB [100, 101, 110, 111, 109, 105, 110, 97, 116, 111, 114], rowA [x]] (resT (Tr.kept' (Tr.ap 16 x nilT nilT))) := by
  cases hv : (Tr.ap 16 x nilT nilT).valid with
  | true =>
    rw [kept_t hv]
    exact pwalk (an := [.av (.tup [inA 1, boA true]), .no, .no, .no, .no, .av (trA (Tr.ap 16 x nilT nilT)), yT]) (ls := []) (ps := [Puk 16 [(syA lispB [100, 101, 110, 111, 109, 105, 110, 97, 116, 111, 114])] (.tup [(inA 1), (boA true)]), Puk 57 [(stA [100, 101, 110, 111, 109, 105, 110, 97, 116, 111, 114]), (obA x.ob)] (trA (Tr.ap 16 x nilT nilT)), Puk 28 [(trA (Tr.ap 16 x nilT nilT))] (boA true)]) Tryz.func21 (by kernel_rfl) (by kernel_rfl) ⟨p_rAr16, p_rOne16 hx, (p_rValid (t := Tr.ap 16 x nilT nilT) (ap_ok hx nil_arg nil_arg 16) (by decide)).b hv, trivial⟩
  | false =>
    rw [kept_f hv]
    exact pwalk (an := [.av (.tup [inA 1, boA true]), .no, .no, .no, .no, .av (trA (Tr.ap 16 x nilT nilT)), yF]) (ls := []) (ps := [Puk 16 [(syA lispB [100, 101, 110, 111, 109, 105, 110, 97, 116, 111, 114])] (.tup [(inA 1), (boA true)]), Puk 57 [(stA [100, 101, 110, 111, 109, 105, 110, 97, 116, 111, 114]), (obA x.ob)] (trA (Tr.ap 16 x nilT nilT)), Puk 28 [(trA (Tr.ap 16 x nilT nilT))] (boA false)]) Tryz.func21 (by kernel_rfl) (by kernel_rfl) ⟨p_rAr16, p_rOne16 hx, (p_rValid (t := Tr.ap 16 x nilT nilT) (ap_ok hx nil_arg nil_arg 16) (by decide)).b hv, trivial⟩
theorem p_oApp17 {x : Tr} (hx : Arg x) : Puk 20 [syA lispB [102, 108, 111, 111, 114], rowA [x]] (resT (Tr.apO 17 x nilT nilT)) := pwalk (an := [.av (.tup [inA 1, boA true]), .no, .no, .no, .no, .no, .no, .no, .no, .no, .no, .no, .no, .no, .av (trA (Tr.ap 17 x nilT nilT))]) (ls := []) (ps := [Puk 15 [(syA lispB [102, 108, 111, 111, 114])] (.tup [(inA 1), (boA true)]), Puk 55 [(stA [102, 108, 111, 111, 114]), (obA x.ob)] (trA (Tr.ap 17 x nilT nilT))]) Tryz.func20 (by kernel_rfl) (by kernel_rfl) ⟨p_oAr17, p_oOne17 hx, trivial⟩
theorem p_rApp17 {x : Tr} (hx : Arg x) : Puk 21 [syA lispB [102, 108, 111, 111, 114], rowA [x]] (resT (Tr.kept' (Tr.ap 17 x nilT nilT))) := by
  cases hv : (Tr.ap 17 x nilT nilT).valid with
  | true =>
    rw [kept_t hv]
    exact pwalk (an := [.av (.tup [inA 1, boA true]), .no, .no, .no, .no, .av (trA (Tr.ap 17 x nilT nilT)), yT]) (ls := []) (ps := [Puk 16 [(syA lispB [102, 108, 111, 111, 114])] (.tup [(inA 1), (boA true)]), Puk 57 [(stA [102, 108, 111, 111, 114]), (obA x.ob)] (trA (Tr.ap 17 x nilT nilT)), Puk 28 [(trA (Tr.ap 17 x nilT nilT))] (boA true)]) Tryz.func21 (by kernel_rfl) (by kernel_rfl) ⟨p_rAr17, p_rOne17 hx, (p_rValid (t := Tr.ap 17 x nilT nilT) (ap_ok hx nil_arg nil_arg 17) (by decide)).b hv, trivial⟩
  | false =>
    rw [kept_f hv]
    exact pwalk (an := [.av (.tup [inA 1, boA true]), .no, .no, .no, .no, .av (trA (Tr.ap 17 x nilT nilT)), yF]) (ls := []) (ps := [Puk 16 [(syA lispB [102, 108, 111, 111, 114])] (.tup [(inA 1), (boA true)]), Puk 57 [(stA [102, 108, 111, 111, 114]), (obA x.ob)] (trA (Tr.ap 17 x nilT nilT)), Puk 28 [(trA (Tr.ap 17 x nilT nilT))] (boA false)]) Tryz.func21 (by kernel_rfl) (by kernel_rfl) ⟨p_rAr17, p_rOne17 hx, (p_rValid (t := Tr.ap 17 x nilT nilT) (ap_ok hx nil_arg nil_arg 17) (by decide)).b hv, trivial⟩
theorem p_oApp18 {x : Tr} (hx : Arg x) : Puk 20 [syA lispB [115, 121, 109, 98, 111, 108, 45, 110, 97, 109, 101], rowA [x]] (resT (Tr.apO 18 x nilT nilT)) := pwalk (an := [.av (.tup [inA 1, boA true]), .no, .no, .no, .no, .no, .no, .no, .no, .no, .no, .no, .no, .no, .av (trA (Tr.ap 18 x nilT nilT))]) (ls := []) (ps := [Puk 15 [(syA lispB [115, 121, 109, 98, 111, 108, 45, 110, 97, 109, 101])] (.tup [(inA 1), (boA true)]), Puk 55 [(stA [115, 121, 109, 98, 111, 108, 45, 110, 97, 109, 101]), (obA x.ob)] (trA (Tr.ap 18 x nilT nilT))]) Tryz.func20 (by kernel_rfl) (by kernel_rfl) ⟨p_oAr18, p_oOne18 hx, trivial⟩
theorem p_rApp18 {x : Tr} (hx : Arg x) : Puk 21 [syA lispB [115, 121, 109, 98, 111, 108, 45, 110, 97, 109, 101], rowA [x]] (resT (Tr.kept' (Tr.ap 18 x nilT nilT))) := by
  cases hv : (Tr.ap 18 x nilT nilT).valid with
  | true =>
    rw [kept_t hv]
    exact pwalk (an := [.av (.tup [inA 1, boA true]), .no, .no, .no, .no, .av (trA (Tr.ap 18 x nilT nilT)), yT]) (ls := []) (ps := [Puk 16 [(syA lispB [115, 121, 109, 98, 111, 108, 45, 110, 97, 109, 101])] (.tup [(inA 1), (boA true)]), Puk 57 [(stA [115, 121, 109, 98, 111, 108, 45, 110, 97, 109, 101]), (obA x.ob)] (trA (Tr.ap 18 x nilT nilT)), Puk 28 [(trA (Tr.ap 18 x nilT nilT))] (boA true)]) Tryz.func21 (by kernel_rfl) (by kernel_rfl) ⟨p_rAr18, p_rOne18 hx, (p_rValid (t := Tr.ap 18 x nilT nilT) (ap_ok hx nil_arg nil_arg 18) (by decide)).b hv, trivial⟩
  | false =>
    rw [kept_f hv]
    exact pwalk (an := [.av (.tup [inA 1, boA true]), .no, .no, .no, .no, .av (trA (Tr.ap 18 x nilT nilT)), yF]) (ls := []) (ps := [Puk 16 [(syA lispB [115, 121, 109, 98, 111, 108, 45, 110, 97, 109, 101])] (.tup [(inA 1), (boA true)]), Puk 57 [(stA [115, 121, 109, 98, 111, 108, 45, 110, 97, 109, 101]), (obA x.ob)] (trA (Tr.ap 18 x nilT nilT)), Puk 28 [(trA (Tr.ap 18 x nilT nilT))] (boA false)]) Tryz.func21 (by kernel_rfl) (by kernel_rfl) ⟨p_rAr18, p_rOne18 hx, (p_rValid (t := Tr.ap 18 x nilT nilT) (ap_ok hx nil_arg nil_arg 18) (by decide)).b hv, trivial⟩
theorem p_oApp19 {x : Tr} (hx : Arg x) : Puk 20 [syA lispB [115, 121, 109, 98, 111, 108, 45, 112, 97, 99, 107, 97, 103, 101, 45, 110, 97, 109, 101], rowA [x]] (resT (Tr.apO 19 x nilT nilT)) := pwalk (an := [.av (.tup [inA 1, boA true]), .no, .no, .no, .no, .no, .no, .no, .no, .no, .no, .no, .no, .no, .av (trA (Tr.ap 19 x nilT nilT))]) (ls := []) (ps := [Puk 15 [(syA lispB [115, 121, 109, 98, 111, 108, 45, 112, 97, 99, 107, 97, 103, 101, 45, 110, 97, 109, 101])] (.tup [(inA 1), (boA true)]), Puk 55 [(stA [115, 121, 109, 98, 111, 108, 45, 112, 97, 99, 107, 97, 103, 101, 45, 110, 97, 109, 101]), (obA x.ob)] (trA (Tr.ap 19 x nilT nilT))]) Tryz.func20 (by kernel_rfl) (by kernel_rfl) ⟨p_oAr19, p_oOne19 hx, trivial⟩
theorem p_rApp19 {x : Tr} (hx : Arg x) : Puk 21 [syA lispB [115, 121, 109, 98, 111, 108, 45, 112, 97, 99, 107, 97, 103, 101, 45, 110, 97, 109, 101], rowA [x]] (resT (Tr.kept' (Tr.ap 19 x nilT nilT))) := by
  cases hv : (Tr.ap 19 x nilT nilT).valid with
  | true =>
    rw [kept_t hv]
    exact pwalk (an := [.av (.tup [inA 1, boA true]), .no, .no, .no, .no, .av (trA (Tr.ap 19 x nilT nilT)), yT]) (ls := []) (ps := [Puk 16 [(syA lispB [115, 121, 109, 98, 111, 108, 45, 112, 97, 99, 107, 97, 103, 101, 45, 110, 97, 109, 101])] (.tup [(inA 1), (boA true)]), Puk 57 [(stA [115, 121, 109, 98, 111, 108, 45, 112, 97, 99, 107, 97, 103, 101, 45, 110, 97, 109, 101]), (obA x.ob)] (trA (Tr.ap 19 x nilT nilT)), Puk 28 [(trA (Tr.ap 19 x nilT nilT))] (boA true)]) Tryz.func21 (by kernel_rfl) (by kernel_rfl) ⟨p_rAr19, p_rOne19 hx, (p_rValid (t := Tr.ap 19 x nilT nilT) (ap_ok hx nil_arg nil_arg 19) (by decide)).b hv, trivial⟩
  | false =>
    rw [kept_f hv]
    exact pwalk (an := [.av (.tup [inA 1, boA true]), .no, .no, .no, .no, .av (trA (Tr.ap 19 x nilT nilT)), yF]) (ls := []) (ps := [Puk 16 [(syA lispB [115, 121, 109, 98, 111, 108, 45, 112, 97, 99, 107, 97, 103, 101, 45, 110, 97, 109, 101])] (.tup [(inA 1), (boA true)]), Puk 57 [(stA [115, 121, 109, 98, 111, 108, 45, 112, 97, 99, 107, 97, 103, 101, 45, 110, 97, 109, 101]), (obA x.ob)] (trA (Tr.ap 19 x nilT nilT)), Puk 28 [(trA (Tr.ap 19 x nilT nilT))] (boA false)]) Tryz.func21 (by kernel_rfl) (by kernel_rfl) ⟨p_rAr19, p_rOne19 hx, (p_rValid (t := Tr.ap 19 x nilT nilT) (ap_ok hx nil_arg nil_arg 19) (by decide)).b hv, trivial⟩
theorem p_oApp20 {x y : Tr} (hx : Arg x) (hy : Arg y) : Puk 20 [syA lispB [105, 110, 116, 101, 114, 110], rowA [x, y]] (resT (Tr.apO 20 x y nilT)) := pwalk (an := [.av (.tup [inA 2, boA true]), .no, .no, .no, .no, .no, .no, .no, .no, .no, .no, .no, .av (trA (Tr.ap 20 x y nilT))]) (ls := []) (ps := [Puk 15 [(syA lispB [105, 110, 116, 101, 114, 110])] (.tup [(inA 2), (boA true)]), Puk 48 [(obA x.ob), (obA y.ob)] (trA (Tr.ap 20 x y nilT))]) Tryz.func20 (by kernel_rfl) (by kernel_rfl) ⟨p_oAr20, p_oIntern hx.ok hy.ok, trivial⟩
theorem p_rApp20 {x y : Tr} (hx : Arg x) (hy : Arg y) : Puk 21 [syA lispB [105, 110, 116, 101, 114, 110], rowA [x, y]] (resT (Tr.kept' (Tr.ap 20 x y nilT))) := by
  cases hv : (Tr.ap 20 x y nilT).valid with
  | true =>
    rw [kept_t hv]
    exact pwalk (an := [.av (.tup [inA 2, boA true]), .no, .no, .no, .no, .no, .no, .av (trA (Tr.ap 20 x y nilT)), yT]) (ls := []) (ps := [Puk 16 [(syA lispB [105, 110, 116, 101, 114, 110])] (.tup [(inA 2), (boA true)]), Puk 58 [(stA [105, 110, 116, 101, 114, 110]), (obA x.ob), (obA y.ob)] (trA (Tr.ap 20 x y nilT)), Puk 28 [(trA (Tr.ap 20 x y nilT))] (boA true)]) Tryz.func21 (by kernel_rfl) (by kernel_rfl) ⟨p_rAr20, p_rTwo20 hx hy, (p_rValid (t := Tr.ap 20 x y nilT) (ap_ok hx hy nil_arg 20) (by decide)).b hv, trivial⟩
  | false =>
    rw [kept_f hv]
    exact pwalk (an := [.av (.tup [inA 2, boA true]), .no, .no, .no, .no, .no, .no, .av (trA (Tr.ap 20 x y nilT)), yF]) (ls := []) (ps := [Puk 16 [(syA lispB [105, 110, 116, 101, 114, 110])] (.tup [(inA 2), (boA true)]), Puk 58 [(stA [105, 110, 116, 101, 114, 110]), (obA x.ob), (obA y.ob)] (trA (Tr.ap 20 x y nilT)), Puk 28 [(trA (Tr.ap 20 x y nilT))] (boA false)]) Tryz.func21 (by kernel_rfl) (by kernel_rfl) ⟨p_rAr20, p_rTwo20 hx hy, (p_rValid (t := Tr.ap 20 x y nilT) (ap_ok hx hy nil_arg 20) (by decide)).b hv, trivial⟩
theorem p_oApp21 {x y : Tr} (hx : Arg x) (hy : Arg y) : Puk 20 [syA lispB [115, 116, 114, 105, 110, 103, 45, 97, 112, 112, 101, 110, 100], rowA [x, y]] (resT (Tr.apO 21 x y nilT)) := by
  have e : Tr.apO 21 x y nilT = Tr.kept' (Tr.ap 21 x y nilT) := rfl
  rw [e]
  cases hv : (Tr.ap 21 x y nilT).valid with
  | true =>
    rw [kept_t hv]
    exact pwalk (an := [.av (.tup [inA 2, boA true]), .no, .no, .no, .no, .no, .no, .no, .no, .no, .no, .av (stA (x.tx ++ y.tx)), .av (trA (.txt (x.tx ++ y.tx))), yT]) (ls := []) (ps := [Puk 15 [(syA lispB [115, 116, 114, 105, 110, 103, 45, 97, 112, 112, 101, 110, 100])] (.tup [(inA 2), (boA true)]), Bn .add 9 (.tmp 67) (.tmp 69) (str x.ob.text) (str y.ob.text) (str (x.tx ++ y.tx)), Puk 47 [(stA (x.tx ++ y.tx))] (obA ((Tr.txt (x.tx ++ y.tx)).ob)), Puk 56 [(obA ((Tr.txt (x.tx ++ y.tx)).ob))] (boA true)]) Tryz.func20 (by kernel_rfl) (by kernel_rfl) ⟨p_oAr21, bin_strs (a := x.tx) (b := y.tx) (by have := hx.tx; have := hy.tx; omega), p_oText _, (p_oValid (t := Tr.ap 21 x y nilT) (ap_ok hx hy nil_arg 21) (by decide)).b hv, trivial⟩
  | false =>
    rw [kept_f hv]
    exact pwalk (an := [.av (.tup [inA 2, boA true]), .no, .no, .no, .no, .no, .no, .no, .no, .no, .no, .av (stA (x.tx ++ y.tx)), .av (trA (.txt (x.tx ++ y.tx))), yF]) (ls := []) (ps := [Puk 15 [(syA lispB [115, 116, 114, 105, 110, 103, 45, 97, 112, 112, 101, 110, 100])] (.tup [(inA 2), (boA true)]), Bn .add 9 (.tmp 67) (.tmp 69) (str x.ob.text) (str y.ob.text) (str (x.tx ++ y.tx)), Puk 47 [(stA (x.tx ++ y.tx))] (obA ((Tr.txt (x.tx ++ y.tx)).ob)), Puk 56 [(obA ((Tr.txt (x.tx ++ y.tx)).ob))] (boA false)]) Tryz.func20 (by kernel_rfl) (by kernel_rfl) ⟨p_oAr21, bin_strs (a := x.tx) (b := y.tx) (by have := hx.tx; have := hy.tx; omega), p_oText _, (p_oValid (t := Tr.ap 21 x y nilT) (ap_ok hx hy nil_arg 21) (by decide)).b hv, trivial⟩
theorem p_rApp21 {x y : Tr} (hx : Arg x) (hy : Arg y) : Puk 21 [syA lispB [115, 116, 114, 105, 110, 103, 45, 97, 112, 112, 101, 110, 100], rowA [x, y]] (resT (Tr.kept' (Tr.ap 21 x y nilT))) := by
  cases hv : (Tr.ap 21 x y nilT).valid with
  | true =>
    rw [kept_t hv]
    exact pwalk (an := [.av (.tup [inA 2, boA true]), .no, .no, .no, .no, .no, .no, .av (trA (Tr.ap 21 x y nilT)), yT]) (ls := []) (ps := [Puk 16 [(syA lispB [115, 116, 114, 105, 110, 103, 45, 97, 112, 112, 101, 110, 100])] (.tup [(inA 2), (boA true)]), Puk 58 [(stA [115, 116, 114, 105, 110, 103, 45, 97, 112, 112, 101, 110, 100]), (obA x.ob), (obA y.ob)] (trA (Tr.ap 21 x y nilT)), Puk 28 [(trA (Tr.ap 21 x y nilT))] (boA true)]) Tryz.func21 (by kernel_rfl) (by kernel_rfl) ⟨p_rAr21, p_rTwo21 hx hy, (p_rValid (t := Tr.ap 21 x y nilT) (ap_ok hx hy nil_arg 21) (by decide)).b hv, trivial⟩
  | false =>
    rw [kept_f hv]
    exact pwalk (an := [.av (.tup [inA 2, boA true]), .no, .no, .no, .no, .no, .no, .av (trA (Tr.ap 21 x y nilT)), yF]) (ls := []) (ps := [Puk 16 [(syA lispB [115, 116, 114, 105, 110, 103, 45, 97, 112, 112, 101, 110, 100])] (.tup [(inA 2), (boA true)]), Puk 58 [(stA [115, 116, 114, 105, 110, 103, 45, 97, 112, 112, 101, 110, 100]), (obA x.ob), (obA y.ob)] (trA (Tr.ap 21 x y nilT)), Puk 28 [(trA (Tr.ap 21 x y nilT))] (boA false)]) Tryz.func21 (by kernel_rfl) (by kernel_rfl) ⟨p_rAr21, p_rTwo21 hx hy, (p_rValid (t := Tr.ap 21 x y nilT) (ap_ok hx hy nil_arg 21) (by decide)).b hv, trivial⟩
theorem p_oApp22 {x : Tr} (hx : Arg x) : Puk 20 [syA lispB [115, 116, 114, 105, 110, 103, 45, 108, 101, 110, 103, 116, 104], rowA [x]] (resT (Tr.apO 22 x nilT nilT)) := pwalk (an := [.av (.tup [inA 1, boA true]), .no, .no, .no, .no, .no, .no, .no, .no, .no, .no, .no, .no, .no, .av (trA (Tr.ap 22 x nilT nilT))]) (ls := []) (ps := [Puk 15 [(syA lispB [115, 116, 114, 105, 110, 103, 45, 108, 101, 110, 103, 116, 104])] (.tup [(inA 1), (boA true)]), Puk 55 [(stA [115, 116, 114, 105, 110, 103, 45, 108, 101, 110, 103, 116, 104]), (obA x.ob)] (trA (Tr.ap 22 x nilT nilT))]) Tryz.func20 (by kernel_rfl) (by kernel_rfl) ⟨p_oAr22, p_oOne22 hx, trivial⟩
theorem p_rApp22 {x : Tr} (hx : Arg x) : Puk 21 [syA lispB [115, 116, 114, 105, 110, 103, 45, 108, 101, 110, 103, 116, 104], rowA [x]] (resT (Tr.kept' (Tr.ap 22 x nilT nilT))) := by
  cases hv : (Tr.ap 22 x nilT nilT).valid with
  | true =>
    rw [kept_t hv]
    exact pwalk (an := [.av (.tup [inA 1, boA true]), .no, .no, .no, .no, .av (trA (Tr.ap 22 x nilT nilT)), yT]) (ls := []) (ps := [Puk 16 [(syA lispB [115, 116, 114, 105, 110, 103, 45, 108, 101, 110, 103, 116, 104])] (.tup [(inA 1), (boA true)]), Puk 57 [(stA [115, 116, 114, 105, 110, 103, 45, 108, 101, 110, 103, 116, 104]), (obA x.ob)] (trA (Tr.ap 22 x nilT nilT)), Puk 28 [(trA (Tr.ap 22 x nilT nilT))] (boA true)]) Tryz.func21 (by kernel_rfl) (by kernel_rfl) ⟨p_rAr22, p_rOne22 hx, (p_rValid (t := Tr.ap 22 x nilT nilT) (ap_ok hx nil_arg nil_arg 22) (by decide)).b hv, trivial⟩
  | false =>
    rw [kept_f hv]
    exact pwalk (an := [.av (.tup [inA 1, boA true]), .no, .no, .no, .no, .av (trA (Tr.ap 22 x nilT nilT)), yF]) (ls := []) (ps := [Puk 16 [(syA lispB [115, 116, 114, 105, 110, 103, 45, 108, 101, 110, 103, 116, 104])] (.tup [(inA 1), (boA true)]), Puk 57 [(stA [115, 116, 114, 105, 110, 103, 45, 108, 101, 110, 103, 116, 104]), (obA x.ob)] (trA (Tr.ap 22 x nilT nilT)), Puk 28 [(trA (Tr.ap 22 x nilT nilT))] (boA false)]) Tryz.func21 (by kernel_rfl) (by kernel_rfl) ⟨p_rAr22, p_rOne22 hx, (p_rValid (t := Tr.ap 22 x nilT nilT) (ap_ok hx nil_arg nil_arg 22) (by decide)).b hv, trivial⟩
theorem p_oApp23 {x y : Tr} (_ : Arg x) (hy : Arg y) : Puk 20 [syA lispB [115, 116, 114, 105, 110, 103, 45, 98, 121, 116, 101], rowA [x, y]] (resT (Tr.apO 23 x y nilT)) := by
  have e : Tr.apO 23 x y nilT = some (Tr.ap 23 x y nilT) := rfl
  rw [e]
  have hi := p_oIx x hy.ok (by decide)
  cases ho : x.ixV y with
  | none =>
    rw [ap23_n ho]
    rw [ho] at hi
    exact pwalk (an := [.av (.tup [inA 2, boA true]), .no, .no, .no, .no, .no, .no, .no, .no, .no, .no, .no, .no, .av (.tup [inA (ixN x y), boA false]), .av (trA nilT)]) (ls := []) (ps := [Puk 15 [(syA lispB [115, 116, 114, 105, 110, 103, 45, 98, 121, 116, 101])] (.tup [(inA 2), (boA true)]), Puk 49 [(obA x.ob), (obA y.ob)] (.tup [(inA (ixN x y)), (boA false)]), Puk 50 [] (obA nilT.ob)]) Tryz.func20 (by kernel_rfl) (by kernel_rfl) ⟨p_oAr23, hi, p_oNil, trivial⟩
  | some n =>
    obtain ⟨h2, _, _, h0, h1⟩ := ixV_some ho
    rw [ap23_s ho]
    rw [ho, h2] at hi
    generalize hb : x.tx.getD n.toNat 0 = b
    have hg := getD_ix h0 h1
    rw [hb] at hg
    have := b.toNat_lt
    exact pwalk (an := [.av (.tup [inA 2, boA true]), .no, .no, .no, .no, .no, .no, .no, .no, .no, .no, .no, .no, .av (.tup [inA n, boA true]), .av (.dt (.val (.int .u8 b.toNat))), .av (inA b.toNat), .av (trA (.num ((b.toNat : Int) : Rat)))]) (ls := []) (ps := [Puk 15 [(syA lispB [115, 116, 114, 105, 110, 103, 45, 98, 121, 116, 101])] (.tup [(inA 2), (boA true)]), Puk 49 [(obA x.ob), (obA y.ob)] (.tup [(inA n), (boA true)]), IxS ({ data := x.ob.text.toArray : ByteArray }) n (Value.int .u8 ↑b.toNat), (vi ↑b.toNat) = (vi (IntKind.i64.wrap ↑b.toNat)), Puk 51 [(inA ↑b.toNat)] (trA (Tr.num ↑↑b.toNat))]) Tryz.func20 (by kernel_rfl) (by kernel_rfl) ⟨p_oAr23, hi, ⟨b, h0, by rw [bytes_get]; exact hg, rfl⟩, by rw [u8_wrap], p_oInt _ (by omega) (by omega), trivial⟩
theorem p_rApp23 {x y : Tr} (hx : Arg x) (hy : Arg y) : Puk 21 [syA lispB [115, 116, 114, 105, 110, 103, 45, 98, 121, 116, 101], rowA [x, y]] (resT (Tr.kept' (Tr.ap 23 x y nilT))) := by
  cases hv : (Tr.ap 23 x y nilT).valid with
  | true =>
    rw [kept_t hv]
    exact pwalk (an := [.av (.tup [inA 2, boA true]), .no, .no, .no, .no, .no, .no, .av (trA (Tr.ap 23 x y nilT)), yT]) (ls := []) (ps := [Puk 16 [(syA lispB [115, 116, 114, 105, 110, 103, 45, 98, 121, 116, 101])] (.tup [(inA 2), (boA true)]), Puk 58 [(stA [115, 116, 114, 105, 110, 103, 45, 98, 121, 116, 101]), (obA x.ob), (obA y.ob)] (trA (Tr.ap 23 x y nilT)), Puk 28 [(trA (Tr.ap 23 x y nilT))] (boA true)]) Tryz.func21 (by kernel_rfl) (by kernel_rfl) ⟨p_rAr23, p_rTwo23 hx hy, (p_rValid (t := Tr.ap 23 x y nilT) (ap_ok hx hy nil_arg 23) (by decide)).b hv, trivial⟩
  | false =>
    rw [kept_f hv]
    exact pwalk (an := [.av (.tup [inA 2, boA true]), .no, .no, .no, .no, .no, .no, .av (trA (Tr.ap 23 x y nilT)), yF]) (ls := []) (ps := [Puk 16 [(syA lispB [115, 116, 114, 105, 110, 103, 45, 98, 121, 116, 101])] (.tup [(inA 2), (boA true)]), Puk 58 [(stA [115, 116, 114, 105, 110, 103, 45, 98, 121, 116, 101]), (obA x.ob), (obA y.ob)] (trA (Tr.ap 23 x y nilT)), Puk 28 [(trA (Tr.ap 23 x y nilT))] (boA false)]) Tryz.func21 (by kernel_rfl) (by kernel_rfl) ⟨p_rAr23, p_rTwo23 hx hy, (p_rValid (t := Tr.ap 23 x y nilT) (ap_ok hx hy nil_arg 23) (by decide)).b hv, trivial⟩
theorem p_oApp24 {x : Tr} (hx : Arg x) : Puk 20 [syA lispB [98, 121, 116, 101, 45, 115, 116, 114, 105, 110, 103], rowA [x]] (resT (Tr.apO 24 x nilT nilT)) := pwalk (an := [.av (.tup [inA 1, boA true]), .no, .no, .no, .no, .no, .no, .no, .no, .no, .no, .no, .no, .no, .av (trA (Tr.ap 24 x nilT nilT))]) (ls := []) (ps := [Puk 15 [(syA lispB [98, 121, 116, 101, 45, 115, 116, 114, 105, 110, 103])] (.tup [(inA 1), (boA true)]), Puk 55 [(stA [98, 121, 116, 101, 45, 115, 116, 114, 105, 110, 103]), (obA x.ob)] (trA (Tr.ap 24 x nilT nilT))]) Tryz.func20 (by kernel_rfl) (by kernel_rfl) ⟨p_oAr24, p_oOne24 hx, trivial⟩
theorem p_rApp24 {x : Tr} (hx : Arg x) : Puk 21 [syA lispB [98, 121, 116, 101, 45, 115, 116, 114, 105, 110, 103], rowA [x]] (resT (Tr.kept' (Tr.ap 24 x nilT nilT))) := by
  cases hv : (Tr.ap 24 x nilT nilT).valid with
  | true =>
    rw [kept_t hv]
    exact pwalk (an := [.av (.tup [inA 1, boA true]), .no, .no, .no, .no, .av (trA (Tr.ap 24 x nilT nilT)), yT]) (ls := []) (ps := [Puk 16 [(syA lispB [98, 121, 116, 101, 45, 115, 116, 114, 105, 110, 103])] (.tup [(inA 1), (boA true)]), Puk 57 [(stA [98, 121, 116, 101, 45, 115, 116, 114, 105, 110, 103]), (obA x.ob)] (trA (Tr.ap 24 x nilT nilT)), Puk 28 [(trA (Tr.ap 24 x nilT nilT))] (boA true)]) Tryz.func21 (by kernel_rfl) (by kernel_rfl) ⟨p_rAr24, p_rOne24 hx, (p_rValid (t := Tr.ap 24 x nilT nilT) (ap_ok hx nil_arg nil_arg 24) (by decide)).b hv, trivial⟩
  | false =>
    rw [kept_f hv]
    exact pwalk (an := [.av (.tup [inA 1, boA true]), .no, .no, .no, .no, .av (trA (Tr.ap 24 x nilT nilT)), yF]) (ls := []) (ps := [Puk 16 [(syA lispB [98, 121, 116, 101, 45, 115, 116, 114, 105, 110, 103])] (.tup [(inA 1), (boA true)]), Puk 57 [(stA [98, 121, 116, 101, 45, 115, 116, 114, 105, 110, 103]), (obA x.ob)] (trA (Tr.ap 24 x nilT nilT)), Puk 28 [(trA (Tr.ap 24 x nilT nilT))] (boA false)]) Tryz.func21 (by kernel_rfl) (by kernel_rfl) ⟨p_rAr24, p_rOne24 hx, (p_rValid (t := Tr.ap 24 x nilT nilT) (ap_ok hx nil_arg nil_arg 24) (by decide)).b hv, trivial⟩
theorem p_oApC {p s : List UInt8} {a : Int} {l : List Tr} (hA : Puk 15 [syA p s] (.tup [inA a, boA true])) (h : (l.length : Int) ≠ a) : Puk 20 [syA p s, rowA l] (.tup [obA zO, inA 5]) := pwalk (an := [.av (.tup [inA a, boA true]), .no, yT]) (ls := []) (ps := [Puk 15 [(syA p s)] (.tup [(inA a), (boA true)]), Bn .neq 3 (.tmp 22) (.tmp 23) (vi (↑(List.map (fun t => encL t.ob) l).length)) (vi a) bT]) Tryz.func20 (by kernel_rfl) (by kernel_rfl) ⟨hA, bin_ine (by rw [List.length_map]; exact decide_eq_false h), trivial⟩
theorem p_oApF {p s : List UInt8} {l : List Tr} (hA : Puk 15 [syA p s] (.tup [inA 0, boA false])) : Puk 20 [syA p s, rowA l] (.tup [obA zO, inA 7]) := pwalk (an := [.av (.tup [inA 0, boA false])]) (ls := []) (ps := [Puk 15 [(syA p s)] (.tup [(inA 0), (boA false)])]) Tryz.func20 (by kernel_rfl) (by kernel_rfl) ⟨hA, trivial⟩
theorem p_rApC {p s : List UInt8} {a : Int} {l : List Tr} (hA : Puk 16 [syA p s] (.tup [inA a, boA true])) (h : (l.length : Int) ≠ a) : Puk 21 [syA p s, rowA l] (.tup [obA zO, inA 5]) := pwalk (an := [.av (.tup [inA a, boA true]), .no, yT]) (ls := []) (ps := [Puk 16 [(syA p s)] (.tup [(inA a), (boA true)]), Bn .neq 3 (.tmp 18) (.tmp 19) (vi (↑(List.map (fun t => encL t.ob) l).length)) (vi a) bT]) Tryz.func21 (by kernel_rfl) (by kernel_rfl) ⟨hA, bin_ine (by rw [List.length_map]; exact decide_eq_false h), trivial⟩
theorem p_rApF {p s : List UInt8} {l : List Tr} (hA : Puk 16 [syA p s] (.tup [inA 0, boA false])) : Puk 21 [syA p s, rowA l] (.tup [obA zO, inA 7]) := pwalk (an := [.av (.tup [inA 0, boA false])]) (ls := []) (ps := [Puk 16 [(syA p s)] (.tup [(inA 0), (boA false)])]) Tryz.func21 (by kernel_rfl) (by kernel_rfl) ⟨hA, trivial⟩
end Go.Proofs.YtmkcnjfhdfanoaaGreatDoor
/- Valid trees under the primitives; Apply of both texts for any symbol and any row of valid trees. -/
namespace Go.Proofs.YtmkcnjfhdfanoaaGreatDoor
open Go.RowKit

theorem dg_lt {n : Int} (h : n.natAbs < 10 ^ 100) : dg (Lib.itoa n) ≤ 100 := by
  have e : norm (Lib.itoa n) = Lib.itoa n := by rw [norm_eq, Dec.dval_itoa]
  have h1 := Dec.decDigits_length_le (k := 100) (by decide) h
  show (Dec.mag (norm (Lib.itoa n))).length ≤ 100
  rw [e]
  by_cases hv : n < 0
  · rw [itoa_natNeg hv, Dec.mag_cons45]
    exact h1
  · rw [itoa_natPos (by omega)]
    exact Nat.le_trans (Dec.mag_length_le _) h1
theorem lt_dg {n : Int} (h : dg (Lib.itoa n) ≤ 100) : n.natAbs < 10 ^ 100 := by
  obtain ⟨hd, _, hv, _⟩ := mag_norm (Lib.itoa n)
  rw [Dec.dval_itoa] at hv
  rw [← hv]
  exact Nat.lt_of_lt_of_le (Dec.nval_lt _ hd) (Nat.pow_le_pow_right (by decide) h)
namespace Tr
theorem good_num {q : Rat} : good (.num q) = true ↔ Rb 100 q := by
  show decide (dg (Lib.itoa q.num) ≤ 100 ∧ dg (Lib.itoa (q.den : Int)) ≤ 100) = true ↔ _
  rw [decide_eq_true_eq]
  constructor
  · intro h
    have h2 := lt_dg h.2
    rw [Int.natAbs_natCast] at h2
    exact ⟨lt_dg h.1, h2, by decide⟩
  · intro h
    exact ⟨dg_lt h.num, dg_lt (by rw [Int.natAbs_natCast]; exact h.den)⟩
theorem valid_good {t : Tr} (h : t.valid = true) : t.good = true := (valid_iff.1 h).2
theorem good_val {t : Tr} (h : t.good = true) : Rb 100 t.val := by
  cases t with
  | num q => exact good_num.1 h
  | _ => exact Rb.zero.mono (by decide)
theorem good_tx {t : Tr} (h : t.good = true) : t.tx.length ≤ 200 := by
  cases t with
  | txt s => exact of_decide_eq_true h
  | _ => exact Nat.zero_le _
theorem valid_num {q : Rat} (h : Rb 100 q) : valid (.num q) = true := valid_iff.2 ⟨(by decide : 1 ≤ 3000), good_num.2 h⟩
theorem valid_int {n : Int} (h : n.natAbs < 10 ^ 100) : valid (.num (n : Rat)) = true := valid_num (rbI (by decide) h)
theorem valid_txt {l : List UInt8} (h : l.length ≤ 200) : valid (.txt l) = true := valid_iff.2 ⟨(by decide : 1 ≤ 3000), decide_eq_true h⟩
theorem valid_sym {p s : List UInt8} (h : symOk ⟨p, s⟩ = true) : valid (.sym p s) = true := valid_iff.2 ⟨(by decide : 1 ≤ 3000), h⟩
theorem valid_nil : valid nilT = true := by decide +kernel
theorem valid_t : valid (.sym lispB [116]) = true := by decide +kernel
theorem valid_tru (b : Bool) : valid (truT b) = true := by cases b; exact valid_nil; exact valid_t
theorem valid_arg {t : Tr} (h : t.valid = true) : Arg t := ⟨(good_ok (valid_good h)).mono (by decide), Nat.le_trans (good_tx (valid_good h)) (by decide)⟩
theorem sym_lens {p s : List UInt8} (h : symOk ⟨p, s⟩ = true) : p.length ≤ 40 ∧ s.length ≤ 40 := by
  have h' : (pkgOk p && nameOk s) = true := h
  simp only [pkgOk, nameOk, Bool.and_eq_true, decide_eq_true_eq] at h'
  omega
theorem ap_valid {x y z : Tr} (hx : x.valid = true) (hy : y.valid = true) (hz : z.valid = true) : ∀ i : Nat, i ≠ 2 → i ≠ 10 → i ≠ 11 → i ≠ 21 → (ap i x y z).valid = true
  | 0, _, _, _, _ => by
    show (if x = nilT then z else y).valid = true
    split
    · exact hz
    · exact hy
  | 1, _, _, _, _ => valid_tru _
  | 2, h, _, _, _ => absurd rfl h
  | 3, _, _, _, _ => by
    cases x with
    | cons a d => exact (valid_parts hx).1
    | _ => exact valid_nil
  | 4, _, _, _, _ => by
    cases x with
    | cons a d => exact (valid_parts hx).2
    | _ => exact valid_nil
  | 5, _, _, _, _ => valid_tru _
  | 6, _, _, _, _ => valid_tru _
  | 7, _, _, _, _ => valid_tru _
  | 8, _, _, _, _ => valid_tru _
  | 9, _, _, _, _ => valid_tru _
  | 10, _, h, _, _ => absurd rfl h
  | 11, _, _, h, _ => absurd rfl h
  | 12, _, _, _, _ => valid_num (good_val (valid_good hx)).neg
  | 13, _, _, _, _ => valid_num (good_val (valid_good hx)).inv
  | 14, _, _, _, _ => valid_tru _
  | 15, _, _, _, _ => valid_int (good_val (valid_good hx)).num
  | 16, _, _, _, _ => valid_int (by rw [Int.natAbs_natCast]; exact (good_val (valid_good hx)).den)
  | 17, _, _, _, _ => valid_int (by
      have hp : (0 : Int) < x.val.den := Int.natCast_pos.2 x.val.den_pos
      unfold qd
      rw [if_neg (by omega), if_pos hp]
      exact Nat.lt_of_le_of_lt (Int.natAbs_ediv_le_natAbs _ _) (good_val (valid_good hx)).num)
  | 18, _, _, _, _ => by
    cases x with
    | sym p s => exact valid_txt (by have h := sym_lens (valid_good hx); show s.length ≤ 200; omega)
    | _ => exact valid_txt (Nat.zero_le _)
  | 19, _, _, _, _ => by
    cases x with
    | sym p s => exact valid_txt (by have h := sym_lens (valid_good hx); show p.length ≤ 200; omega)
    | _ => exact valid_txt (Nat.zero_le _)
  | 20, _, _, _, _ => by
    show (if x.isT && y.isT && symOk ⟨y.tx, x.tx⟩ then Tr.sym y.tx x.tx else nilT).valid = true
    split
    · rename_i h
      rw [Bool.and_eq_true] at h
      exact valid_sym h.2
    · exact valid_nil
  | 21, _, _, _, h => absurd rfl h
  | 22, _, _, _, _ => valid_int (by
      have := good_tx (valid_good hx)
      rw [Int.natAbs_natCast]
      exact Nat.lt_of_le_of_lt this (by decide))
  | 23, _, _, _, _ => by
    show (match x.ixV y with | some n => Tr.num (((x.tx.getD n.toNat 0).toNat : Int) : Rat) | none => nilT).valid = true
    split
    · rename_i n _
      exact valid_int (by rw [Int.natAbs_natCast]; exact Nat.lt_trans (x.tx.getD n.toNat 0).toNat_lt (by decide))
    · exact valid_nil
  | 24, _, _, _, _ => by
    show (match x.octV with | some n => Tr.txt [UInt8.ofNat n.toNat] | none => Tr.txt []).valid = true
    split
    · exact valid_txt (show 1 ≤ 200 by decide)
    · exact valid_txt (Nat.zero_le _)
  | _ + 25, _, _, _, _ => valid_nil
theorem apO_eq {x y z : Tr} (hx : x.valid = true) (hy : y.valid = true) (hz : z.valid = true) (i : Nat) : apO i x y z = kept' (ap i x y z) := by
  unfold apO
  split
  · rfl
  · rename_i h
    rw [kept_t (ap_valid hx hy hz i (by omega) (by omega) (by omega) (by omega))]
/-- the value on a row -/
abbrev apL (i : Nat) (l : List Tr) : Tr := ap i (l.getD 0 nilT) (l.getD 1 nilT) (l.getD 2 nilT)
end Tr
theorem getD_valid {l : List Tr} (h : ∀ t ∈ l, t.valid = true) (i : Nat) : (l.getD i nilT).valid = true := by
  rw [List.getD_eq_getElem?_getD]
  rcases Nat.lt_or_ge i l.length with h1 | h1
  · rw [List.getElem?_eq_getElem h1]
    exact h _ (List.getElem_mem h1)
  · rw [List.getElem?_eq_none h1]
    exact Tr.valid_nil
theorem p_oAri : ∀ {i : Nat} {s : List UInt8} {a : Nat}, primL[i]? = some (s, a) → Puk 15 [syA lispB s] (.tup [inA (a : Int), boA true])
  | 0, _, _, h => by cases h; exact p_oAr0
  | 1, _, _, h => by cases h; exact p_oAr1
  | 2, _, _, h => by cases h; exact p_oAr2
  | 3, _, _, h => by cases h; exact p_oAr3
  | 4, _, _, h => by cases h; exact p_oAr4
  | 5, _, _, h => by cases h; exact p_oAr5
  | 6, _, _, h => by cases h; exact p_oAr6
  | 7, _, _, h => by cases h; exact p_oAr7
  | 8, _, _, h => by cases h; exact p_oAr8
  | 9, _, _, h => by cases h; exact p_oAr9
  | 10, _, _, h => by cases h; exact p_oAr10
  | 11, _, _, h => by cases h; exact p_oAr11
  | 12, _, _, h => by cases h; exact p_oAr12
  | 13, _, _, h => by cases h; exact p_oAr13
  | 14, _, _, h => by cases h; exact p_oAr14
  | 15, _, _, h => by cases h; exact p_oAr15
  | 16, _, _, h => by cases h; exact p_oAr16
  | 17, _, _, h => by cases h; exact p_oAr17
  | 18, _, _, h => by cases h; exact p_oAr18
  | 19, _, _, h => by cases h; exact p_oAr19
  | 20, _, _, h => by cases h; exact p_oAr20
  | 21, _, _, h => by cases h; exact p_oAr21
  | 22, _, _, h => by cases h; exact p_oAr22
  | 23, _, _, h => by cases h; exact p_oAr23
  | 24, _, _, h => by cases h; exact p_oAr24
  | _ + 25, _, _, h => by cases h
theorem p_rAri : ∀ {i : Nat} {s : List UInt8} {a : Nat}, primL[i]? = some (s, a) → Puk 16 [syA lispB s] (.tup [inA (a : Int), boA true])
  | 0, _, _, h => by cases h; exact p_rAr0
  | 1, _, _, h => by cases h; exact p_rAr1
  | 2, _, _, h => by cases h; exact p_rAr2
  | 3, _, _, h => by cases h; exact p_rAr3
  | 4, _, _, h => by cases h; exact p_rAr4
  | 5, _, _, h => by cases h; exact p_rAr5
  | 6, _, _, h => by cases h; exact p_rAr6
  | 7, _, _, h => by cases h; exact p_rAr7
  | 8, _, _, h => by cases h; exact p_rAr8
  | 9, _, _, h => by cases h; exact p_rAr9
  | 10, _, _, h => by cases h; exact p_rAr10
  | 11, _, _, h => by cases h; exact p_rAr11
  | 12, _, _, h => by cases h; exact p_rAr12
  | 13, _, _, h => by cases h; exact p_rAr13
  | 14, _, _, h => by cases h; exact p_rAr14
  | 15, _, _, h => by cases h; exact p_rAr15
  | 16, _, _, h => by cases h; exact p_rAr16
  | 17, _, _, h => by cases h; exact p_rAr17
  | 18, _, _, h => by cases h; exact p_rAr18
  | 19, _, _, h => by cases h; exact p_rAr19
  | 20, _, _, h => by cases h; exact p_rAr20
  | 21, _, _, h => by cases h; exact p_rAr21
  | 22, _, _, h => by cases h; exact p_rAr22
  | 23, _, _, h => by cases h; exact p_rAr23
  | 24, _, _, h => by cases h; exact p_rAr24
  | _ + 25, _, _, h => by cases h
theorem p_oAp : ∀ {i : Nat} {s : List UInt8} {a : Nat} {l : List Tr}, primL[i]? = some (s, a) → (∀ t ∈ l, t.valid = true) → l.length = a → Puk 20 [syA lispB s, rowA l] (resT (Tr.kept' (Tr.apL i l)))
  | 0, _, _, [x, y, z], h, hl, _ => by cases h; exact (p_oApp0 (Tr.valid_arg (hl x (List.mem_cons_self ..))) (Tr.valid_arg (hl y (List.mem_cons_of_mem _ (List.mem_cons_self ..)))) (Tr.valid_arg (hl z (List.mem_cons_of_mem _ (List.mem_cons_of_mem _ (List.mem_cons_self ..)))))).r (Tr.apO_eq (getD_valid hl 0) (getD_valid hl 1) (getD_valid hl 2) 0)
  | 0, _, _, [], h, _, hn => by cases h; exact absurd hn (by simp)
  | 0, _, _, [_], h, _, hn => by cases h; exact absurd hn (by simp)
  | 0, _, _, [_, _], h, _, hn => by cases h; exact absurd hn (by simp)
  | 0, _, _, _ :: _ :: _ :: _ :: _, h, _, hn => by cases h; simp at hn
  | 1, _, _, [x, y], h, hl, _ => by cases h; exact (p_oApp1 (Tr.valid_arg (hl x (List.mem_cons_self ..))) (Tr.valid_arg (hl y (List.mem_cons_of_mem _ (List.mem_cons_self ..))))).r (Tr.apO_eq (getD_valid hl 0) (getD_valid hl 1) (getD_valid hl 2) 1)
  | 1, _, _, [], h, _, hn => by cases h; exact absurd hn (by simp)
  | 1, _, _, [_], h, _, hn => by cases h; exact absurd hn (by simp)
  | 1, _, _, _ :: _ :: _ :: _, h, _, hn => by cases h; simp at hn
  | 2, _, _, [x, y], h, hl, _ => by cases h; exact (p_oApp2 (Tr.valid_arg (hl x (List.mem_cons_self ..))) (Tr.valid_arg (hl y (List.mem_cons_of_mem _ (List.mem_cons_self ..))))).r (Tr.apO_eq (getD_valid hl 0) (getD_valid hl 1) (getD_valid hl 2) 2)
  | 2, _, _, [], h, _, hn => by cases h; exact absurd hn (by simp)
  | 2, _, _, [_], h, _, hn => by cases h; exact absurd hn (by simp)
  | 2, _, _, _ :: _ :: _ :: _, h, _, hn => by cases h; simp at hn
  | 3, _, _, [x], h, hl, _ => by cases h; exact (p_oApp3 (Tr.valid_arg (hl x (List.mem_cons_self ..)))).r (Tr.apO_eq (getD_valid hl 0) (getD_valid hl 1) (getD_valid hl 2) 3)
  | 3, _, _, [], h, _, hn => by cases h; exact absurd hn (by simp)
  | 3, _, _, _ :: _ :: _, h, _, hn => by cases h; simp at hn
  | 4, _, _, [x], h, hl, _ => by cases h; exact (p_oApp4 (Tr.valid_arg (hl x (List.mem_cons_self ..)))).r (Tr.apO_eq (getD_valid hl 0) (getD_valid hl 1) (getD_valid hl 2) 4)
  | 4, _, _, [], h, _, hn => by cases h; exact absurd hn (by simp)
  | 4, _, _, _ :: _ :: _, h, _, hn => by cases h; simp at hn
  | 5, _, _, [x], h, hl, _ => by cases h; exact (p_oApp5 (Tr.valid_arg (hl x (List.mem_cons_self ..)))).r (Tr.apO_eq (getD_valid hl 0) (getD_valid hl 1) (getD_valid hl 2) 5)
  | 5, _, _, [], h, _, hn => by cases h; exact absurd hn (by simp)
  | 5, _, _, _ :: _ :: _, h, _, hn => by cases h; simp at hn
  | 6, _, _, [x], h, hl, _ => by cases h; exact (p_oApp6 (Tr.valid_arg (hl x (List.mem_cons_self ..)))).r (Tr.apO_eq (getD_valid hl 0) (getD_valid hl 1) (getD_valid hl 2) 6)
  | 6, _, _, [], h, _, hn => by cases h; exact absurd hn (by simp)
  | 6, _, _, _ :: _ :: _, h, _, hn => by cases h; simp at hn
  | 7, _, _, [x], h, hl, _ => by cases h; exact (p_oApp7 (Tr.valid_arg (hl x (List.mem_cons_self ..)))).r (Tr.apO_eq (getD_valid hl 0) (getD_valid hl 1) (getD_valid hl 2) 7)
  | 7, _, _, [], h, _, hn => by cases h; exact absurd hn (by simp)
  | 7, _, _, _ :: _ :: _, h, _, hn => by cases h; simp at hn
  | 8, _, _, [x], h, hl, _ => by cases h; exact (p_oApp8 (Tr.valid_arg (hl x (List.mem_cons_self ..)))).r (Tr.apO_eq (getD_valid hl 0) (getD_valid hl 1) (getD_valid hl 2) 8)
  | 8, _, _, [], h, _, hn => by cases h; exact absurd hn (by simp)
  | 8, _, _, _ :: _ :: _, h, _, hn => by cases h; simp at hn
  | 9, _, _, [x], h, hl, _ => by cases h; exact (p_oApp9 (Tr.valid_arg (hl x (List.mem_cons_self ..)))).r (Tr.apO_eq (getD_valid hl 0) (getD_valid hl 1) (getD_valid hl 2) 9)
  | 9, _, _, [], h, _, hn => by cases h; exact absurd hn (by simp)
  | 9, _, _, _ :: _ :: _, h, _, hn => by cases h; simp at hn
  | 10, _, _, [x, y], h, hl, _ => by cases h; exact (p_oApp10 (Tr.valid_arg (hl x (List.mem_cons_self ..))) (Tr.valid_arg (hl y (List.mem_cons_of_mem _ (List.mem_cons_self ..))))).r (Tr.apO_eq (getD_valid hl 0) (getD_valid hl 1) (getD_valid hl 2) 10)
  | 10, _, _, [], h, _, hn => by cases h; exact absurd hn (by simp)
  | 10, _, _, [_], h, _, hn => by cases h; exact absurd hn (by simp)
  | 10, _, _, _ :: _ :: _ :: _, h, _, hn => by cases h; simp at hn
  | 11, _, _, [x, y], h, hl, _ => by cases h; exact (p_oApp11 (Tr.valid_arg (hl x (List.mem_cons_self ..))) (Tr.valid_arg (hl y (List.mem_cons_of_mem _ (List.mem_cons_self ..))))).r (Tr.apO_eq (getD_valid hl 0) (getD_valid hl 1) (getD_valid hl 2) 11)
  | 11, _, _, [], h, _, hn => by cases h; exact absurd hn (by simp)
  | 11, _, _, [_], h, _, hn => by cases h; exact absurd hn (by simp)
  | 11, _, _, _ :: _ :: _ :: _, h, _, hn => by cases h; simp at hn
  | 12, _, _, [x], h, hl, _ => by cases h; exact (p_oApp12 (Tr.valid_arg (hl x (List.mem_cons_self ..)))).r (Tr.apO_eq (getD_valid hl 0) (getD_valid hl 1) (getD_valid hl 2) 12)
  | 12, _, _, [], h, _, hn => by cases h; exact absurd hn (by simp)
  | 12, _, _, _ :: _ :: _, h, _, hn => by cases h; simp at hn
  | 13, _, _, [x], h, hl, _ => by cases h; exact (p_oApp13 (Tr.valid_arg (hl x (List.mem_cons_self ..)))).r (Tr.apO_eq (getD_valid hl 0) (getD_valid hl 1) (getD_valid hl 2) 13)
  | 13, _, _, [], h, _, hn => by cases h; exact absurd hn (by simp)
  | 13, _, _, _ :: _ :: _, h, _, hn => by cases h; simp at hn
  | 14, _, _, [x, y], h, hl, _ => by cases h; exact (p_oApp14 (Tr.valid_arg (hl x (List.mem_cons_self ..))) (Tr.valid_arg (hl y (List.mem_cons_of_mem _ (List.mem_cons_self ..))))).r (Tr.apO_eq (getD_valid hl 0) (getD_valid hl 1) (getD_valid hl 2) 14)
  | 14, _, _, [], h, _, hn => by cases h; exact absurd hn (by simp)
  | 14, _, _, [_], h, _, hn => by cases h; exact absurd hn (by simp)
  | 14, _, _, _ :: _ :: _ :: _, h, _, hn => by cases h; simp at hn
  | 15, _, _, [x], h, hl, _ => by cases h; exact (p_oApp15 (Tr.valid_arg (hl x (List.mem_cons_self ..)))).r (Tr.apO_eq (getD_valid hl 0) (getD_valid hl 1) (getD_valid hl 2) 15)
  | 15, _, _, [], h, _, hn => by cases h; exact absurd hn (by simp)
  | 15, _, _, _ :: _ :: _, h, _, hn => by cases h; simp at hn
  | 16, _, _, [x], h, hl, _ => by cases h; exact (p_oApp16 (Tr.valid_arg (hl x (List.mem_cons_self ..)))).r (Tr.apO_eq (getD_valid hl 0) (getD_valid hl 1) (getD_valid hl 2) 16)
  | 16, _, _, [], h, _, hn => by cases h; exact absurd hn (by simp)
  | 16, _, _, _ :: _ :: _, h, _, hn => by cases h; simp at hn
  | 17, _, _, [x], h, hl, _ => by cases h; exact (p_oApp17 (Tr.valid_arg (hl x (List.mem_cons_self ..)))).r (Tr.apO_eq (getD_valid hl 0) (getD_valid hl 1) (getD_valid hl 2) 17)
  | 17, _, _, [], h, _, hn => by cases h; exact absurd hn (by simp)
  | 17, _, _, _ :: _ :: _, h, _, hn => by cases h; simp at hn
  | 18, _, _, [x], h, hl, _ => by cases h; exact (p_oApp18 (Tr.valid_arg (hl x (List.mem_cons_self ..)))).r (Tr.apO_eq (getD_valid hl 0) (getD_valid hl 1) (getD_valid hl 2) 18)
  | 18, _, _, [], h, _, hn => by cases h; exact absurd hn (by simp)
  | 18, _, _, _ :: _ :: _, h, _, hn => by cases h; simp at hn
  | 19, _, _, [x], h, hl, _ => by cases h; exact (p_oApp19 (Tr.valid_arg (hl x (List.mem_cons_self ..)))).r (Tr.apO_eq (getD_valid hl 0) (getD_valid hl 1) (getD_valid hl 2) 19)
  | 19, _, _, [], h, _, hn => by cases h; exact absurd hn (by simp)
  | 19, _, _, _ :: _ :: _, h, _, hn => by cases h; simp at hn
  | 20, _, _, [x, y], h, hl, _ => by cases h; exact (p_oApp20 (Tr.valid_arg (hl x (List.mem_cons_self ..))) (Tr.valid_arg (hl y (List.mem_cons_of_mem _ (List.mem_cons_self ..))))).r (Tr.apO_eq (getD_valid hl 0) (getD_valid hl 1) (getD_valid hl 2) 20)
  | 20, _, _, [], h, _, hn => by cases h; exact absurd hn (by simp)
  | 20, _, _, [_], h, _, hn => by cases h; exact absurd hn (by simp)
  | 20, _, _, _ :: _ :: _ :: _, h, _, hn => by cases h; simp at hn
  | 21, _, _, [x, y], h, hl, _ => by cases h; exact (p_oApp21 (Tr.valid_arg (hl x (List.mem_cons_self ..))) (Tr.valid_arg (hl y (List.mem_cons_of_mem _ (List.mem_cons_self ..))))).r (Tr.apO_eq (getD_valid hl 0) (getD_valid hl 1) (getD_valid hl 2) 21)
  | 21, _, _, [], h, _, hn => by cases h; exact absurd hn (by simp)
  | 21, _, _, [_], h, _, hn => by cases h; exact absurd hn (by simp)
  | 21, _, _, _ :: _ :: _ :: _, h, _, hn => by cases h; simp at hn
  | 22, _, _, [x], h, hl, _ => by cases h; exact (p_oApp22 (Tr.valid_arg (hl x (List.mem_cons_self ..)))).r (Tr.apO_eq (getD_valid hl 0) (getD_valid hl 1) (getD_valid hl 2) 22)
  | 22, _, _, [], h, _, hn => by cases h; exact absurd hn (by simp)
  | 22, _, _, _ :: _ :: _, h, _, hn => by cases h; simp at hn
  | 23, _, _, [x, y], h, hl, _ => by cases h; exact (p_oApp23 (Tr.valid_arg (hl x (List.mem_cons_self ..))) (Tr.valid_arg (hl y (List.mem_cons_of_mem _ (List.mem_cons_self ..))))).r (Tr.apO_eq (getD_valid hl 0) (getD_valid hl 1) (getD_valid hl 2) 23)
  | 23, _, _, [], h, _, hn => by cases h; exact absurd hn (by simp)
  | 23, _, _, [_], h, _, hn => by cases h; exact absurd hn (by simp)
  | 23, _, _, _ :: _ :: _ :: _, h, _, hn => by cases h; simp at hn
  | 24, _, _, [x], h, hl, _ => by cases h; exact (p_oApp24 (Tr.valid_arg (hl x (List.mem_cons_self ..)))).r (Tr.apO_eq (getD_valid hl 0) (getD_valid hl 1) (getD_valid hl 2) 24)
  | 24, _, _, [], h, _, hn => by cases h; exact absurd hn (by simp)
  | 24, _, _, _ :: _ :: _, h, _, hn => by cases h; simp at hn
  | _ + 25, _, _, _, h, _, _ => by cases h
theorem p_rAp : ∀ {i : Nat} {s : List UInt8} {a : Nat} {l : List Tr}, primL[i]? = some (s, a) → (∀ t ∈ l, t.valid = true) → l.length = a → Puk 21 [syA lispB s, rowA l] (resT (Tr.kept' (Tr.apL i l)))
  | 0, _, _, [x, y, z], h, hl, _ => by cases h; exact p_rApp0 (Tr.valid_arg (hl x (List.mem_cons_self ..))) (Tr.valid_arg (hl y (List.mem_cons_of_mem _ (List.mem_cons_self ..)))) (Tr.valid_arg (hl z (List.mem_cons_of_mem _ (List.mem_cons_of_mem _ (List.mem_cons_self ..)))))
  | 0, _, _, [], h, _, hn => by cases h; exact absurd hn (by simp)
  | 0, _, _, [_], h, _, hn => by cases h; exact absurd hn (by simp)
  | 0, _, _, [_, _], h, _, hn => by cases h; exact absurd hn (by simp)
  | 0, _, _, _ :: _ :: _ :: _ :: _, h, _, hn => by cases h; simp at hn
  | 1, _, _, [x, y], h, hl, _ => by cases h; exact p_rApp1 (Tr.valid_arg (hl x (List.mem_cons_self ..))) (Tr.valid_arg (hl y (List.mem_cons_of_mem _ (List.mem_cons_self ..))))
  | 1, _, _, [], h, _, hn => by cases h; exact absurd hn (by simp)
  | 1, _, _, [_], h, _, hn => by cases h; exact absurd hn (by simp)
  | 1, _, _, _ :: _ :: _ :: _, h, _, hn => by cases h; simp at hn
  | 2, _, _, [x, y], h, hl, _ => by cases h; exact p_rApp2 (Tr.valid_arg (hl x (List.mem_cons_self ..))) (Tr.valid_arg (hl y (List.mem_cons_of_mem _ (List.mem_cons_self ..))))
  | 2, _, _, [], h, _, hn => by cases h; exact absurd hn (by simp)
  | 2, _, _, [_], h, _, hn => by cases h; exact absurd hn (by simp)
  | 2, _, _, _ :: _ :: _ :: _, h, _, hn => by cases h; simp at hn
  | 3, _, _, [x], h, hl, _ => by cases h; exact p_rApp3 (Tr.valid_arg (hl x (List.mem_cons_self ..)))
  | 3, _, _, [], h, _, hn => by cases h; exact absurd hn (by simp)
  | 3, _, _, _ :: _ :: _, h, _, hn => by cases h; simp at hn
  | 4, _, _, [x], h, hl, _ => by cases h; exact p_rApp4 (Tr.valid_arg (hl x (List.mem_cons_self ..)))
  | 4, _, _, [], h, _, hn => by cases h; exact absurd hn (by simp)
  | 4, _, _, _ :: _ :: _, h, _, hn => by cases h; simp at hn
  | 5, _, _, [x], h, hl, _ => by cases h; exact p_rApp5 (Tr.valid_arg (hl x (List.mem_cons_self ..)))
  | 5, _, _, [], h, _, hn => by cases h; exact absurd hn (by simp)
  | 5, _, _, _ :: _ :: _, h, _, hn => by cases h; simp at hn
  | 6, _, _, [x], h, hl, _ => by cases h; exact p_rApp6 (Tr.valid_arg (hl x (List.mem_cons_self ..)))
  | 6, _, _, [], h, _, hn => by cases h; exact absurd hn (by simp)
  | 6, _, _, _ :: _ :: _, h, _, hn => by cases h; simp at hn
  | 7, _, _, [x], h, hl, _ => by cases h; exact p_rApp7 (Tr.valid_arg (hl x (List.mem_cons_self ..)))
  | 7, _, _, [], h, _, hn => by cases h; exact absurd hn (by simp)
  | 7, _, _, _ :: _ :: _, h, _, hn => by cases h; simp at hn
  | 8, _, _, [x], h, hl, _ => by cases h; exact p_rApp8 (Tr.valid_arg (hl x (List.mem_cons_self ..)))
  | 8, _, _, [], h, _, hn => by cases h; exact absurd hn (by simp)
  | 8, _, _, _ :: _ :: _, h, _, hn => by cases h; simp at hn
  | 9, _, _, [x], h, hl, _ => by cases h; exact p_rApp9 (Tr.valid_arg (hl x (List.mem_cons_self ..)))
  | 9, _, _, [], h, _, hn => by cases h; exact absurd hn (by simp)
  | 9, _, _, _ :: _ :: _, h, _, hn => by cases h; simp at hn
  | 10, _, _, [x, y], h, hl, _ => by cases h; exact p_rApp10 (Tr.valid_arg (hl x (List.mem_cons_self ..))) (Tr.valid_arg (hl y (List.mem_cons_of_mem _ (List.mem_cons_self ..))))
  | 10, _, _, [], h, _, hn => by cases h; exact absurd hn (by simp)
  | 10, _, _, [_], h, _, hn => by cases h; exact absurd hn (by simp)
  | 10, _, _, _ :: _ :: _ :: _, h, _, hn => by cases h; simp at hn
  | 11, _, _, [x, y], h, hl, _ => by cases h; exact p_rApp11 (Tr.valid_arg (hl x (List.mem_cons_self ..))) (Tr.valid_arg (hl y (List.mem_cons_of_mem _ (List.mem_cons_self ..))))
  | 11, _, _, [], h, _, hn => by cases h; exact absurd hn (by simp)
  | 11, _, _, [_], h, _, hn => by cases h; exact absurd hn (by simp)
  | 11, _, _, _ :: _ :: _ :: _, h, _, hn => by cases h; simp at hn
  | 12, _, _, [x], h, hl, _ => by cases h; exact p_rApp12 (Tr.valid_arg (hl x (List.mem_cons_self ..)))
  | 12, _, _, [], h, _, hn => by cases h; exact absurd hn (by simp)
  | 12, _, _, _ :: _ :: _, h, _, hn => by cases h; simp at hn
  | 13, _, _, [x], h, hl, _ => by cases h; exact p_rApp13 (Tr.valid_arg (hl x (List.mem_cons_self ..)))
  | 13, _, _, [], h, _, hn => by cases h; exact absurd hn (by simp)
  | 13, _, _, _ :: _ :: _, h, _, hn => by cases h; simp at hn
  | 14, _, _, [x, y], h, hl, _ => by cases h; exact p_rApp14 (Tr.valid_arg (hl x (List.mem_cons_self ..))) (Tr.valid_arg (hl y (List.mem_cons_of_mem _ (List.mem_cons_self ..))))
  | 14, _, _, [], h, _, hn => by cases h; exact absurd hn (by simp)
  | 14, _, _, [_], h, _, hn => by cases h; exact absurd hn (by simp)
  | 14, _, _, _ :: _ :: _ :: _, h, _, hn => by cases h; simp at hn
  | 15, _, _, [x], h, hl, _ => by cases h; exact p_rApp15 (Tr.valid_arg (hl x (List.mem_cons_self ..)))
  | 15, _, _, [], h, _, hn => by cases h; exact absurd hn (by simp)
  | 15, _, _, _ :: _ :: _, h, _, hn => by cases h; simp at hn
  | 16, _, _, [x], h, hl, _ => by cases h; exact p_rApp16 (Tr.valid_arg (hl x (List.mem_cons_self ..)))
  | 16, _, _, [], h, _, hn => by cases h; exact absurd hn (by simp)
  | 16, _, _, _ :: _ :: _, h, _, hn => by cases h; simp at hn
  | 17, _, _, [x], h, hl, _ => by cases h; exact p_rApp17 (Tr.valid_arg (hl x (List.mem_cons_self ..)))
  | 17, _, _, [], h, _, hn => by cases h; exact absurd hn (by simp)
  | 17, _, _, _ :: _ :: _, h, _, hn => by cases h; simp at hn
  | 18, _, _, [x], h, hl, _ => by cases h; exact p_rApp18 (Tr.valid_arg (hl x (List.mem_cons_self ..)))
  | 18, _, _, [], h, _, hn => by cases h; exact absurd hn (by simp)
  | 18, _, _, _ :: _ :: _, h, _, hn => by cases h; simp at hn
  | 19, _, _, [x], h, hl, _ => by cases h; exact p_rApp19 (Tr.valid_arg (hl x (List.mem_cons_self ..)))
  | 19, _, _, [], h, _, hn => by cases h; exact absurd hn (by simp)
  | 19, _, _, _ :: _ :: _, h, _, hn => by cases h; simp at hn
  | 20, _, _, [x, y], h, hl, _ => by cases h; exact p_rApp20 (Tr.valid_arg (hl x (List.mem_cons_self ..))) (Tr.valid_arg (hl y (List.mem_cons_of_mem _ (List.mem_cons_self ..))))
  | 20, _, _, [], h, _, hn => by cases h; exact absurd hn (by simp)
  | 20, _, _, [_], h, _, hn => by cases h; exact absurd hn (by simp)
  | 20, _, _, _ :: _ :: _ :: _, h, _, hn => by cases h; simp at hn
  | 21, _, _, [x, y], h, hl, _ => by cases h; exact p_rApp21 (Tr.valid_arg (hl x (List.mem_cons_self ..))) (Tr.valid_arg (hl y (List.mem_cons_of_mem _ (List.mem_cons_self ..))))
  | 21, _, _, [], h, _, hn => by cases h; exact absurd hn (by simp)
  | 21, _, _, [_], h, _, hn => by cases h; exact absurd hn (by simp)
  | 21, _, _, _ :: _ :: _ :: _, h, _, hn => by cases h; simp at hn
  | 22, _, _, [x], h, hl, _ => by cases h; exact p_rApp22 (Tr.valid_arg (hl x (List.mem_cons_self ..)))
  | 22, _, _, [], h, _, hn => by cases h; exact absurd hn (by simp)
  | 22, _, _, _ :: _ :: _, h, _, hn => by cases h; simp at hn
  | 23, _, _, [x, y], h, hl, _ => by cases h; exact p_rApp23 (Tr.valid_arg (hl x (List.mem_cons_self ..))) (Tr.valid_arg (hl y (List.mem_cons_of_mem _ (List.mem_cons_self ..))))
  | 23, _, _, [], h, _, hn => by cases h; exact absurd hn (by simp)
  | 23, _, _, [_], h, _, hn => by cases h; exact absurd hn (by simp)
  | 23, _, _, _ :: _ :: _ :: _, h, _, hn => by cases h; simp at hn
  | 24, _, _, [x], h, hl, _ => by cases h; exact p_rApp24 (Tr.valid_arg (hl x (List.mem_cons_self ..)))
  | 24, _, _, [], h, _, hn => by cases h; exact absurd hn (by simp)
  | 24, _, _, _ :: _ :: _, h, _, hn => by cases h; simp at hn
  | _ + 25, _, _, _, h, _, _ => by cases h
/-- what Apply answers for any symbol and any row of valid trees -/
theorem p_ap (p s : List UInt8) {l : List Tr} (hl : ∀ t ∈ l, t.valid = true) : ∃ (o : Ob) (e : Int), (o = zO ∨ ∃ t : Tr, o = t.ob ∧ t.valid = true) ∧ Puk 20 [syA p s, rowA l] (.tup [obA o, inA e]) ∧ Puk 21 [syA p s, rowA l] (.tup [obA o, inA e]) := by
  by_cases hp : p = lispB
  · subst hp
    by_cases hs : ∀ x ∈ primL, s ≠ x.1
    · exact ⟨zO, 7, .inl rfl, p_oApF (p_oArU hs), p_rApF (p_rArU hs)⟩
    · obtain ⟨x, hx, hsx⟩ : ∃ x ∈ primL, s = x.1 := by
        simp only [ne_eq, Classical.not_forall, Classical.not_not] at hs
        obtain ⟨x, hx, h⟩ := hs
        exact ⟨x, hx, h⟩
      obtain ⟨i, hi⟩ := List.mem_iff_getElem?.1 hx
      obtain ⟨s', a⟩ := x
      cases hsx
      by_cases hn : l.length = a
      · cases hk : Tr.kept' (Tr.apL i l) with
        | none => exact ⟨zO, 2, .inl rfl, (p_oAp hi hl hn).r hk, (p_rAp hi hl hn).r hk⟩
        | some t =>
          refine ⟨t.ob, 0, .inr ⟨t, rfl, ?_⟩, (p_oAp hi hl hn).r hk, (p_rAp hi hl hn).r hk⟩
          unfold Tr.kept' at hk
          split at hk
          · rename_i hv; cases hk; exact hv
          · cases hk
      · exact ⟨zO, 5, .inl rfl, p_oApC (p_oAri hi) (by omega), p_rApC (p_rAri hi) (by omega)⟩
  · exact ⟨zO, 7, .inl rfl, p_oApF (p_oArP hp), p_rApF (p_rArP hp)⟩
end Go.Proofs.YtmkcnjfhdfanoaaGreatDoor
