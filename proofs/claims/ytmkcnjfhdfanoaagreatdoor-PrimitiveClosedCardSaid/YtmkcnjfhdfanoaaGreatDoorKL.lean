/- The parts of Apply, in both texts, on trees. -/
import Derived.Test.YtmkcnjfhdfanoaaGreatDoorKK
namespace Go.Proofs.YtmkcnjfhdfanoaaGreatDoor
open Go.RowKit

theorem p_oTru (b : Bool) : Puk 52 [boA b] (trA (truT b)) := by
  cases b with
  | true => exact pwalk (an := [.av (trA (.sym lispB [116]))]) (ls := []) (ps := [Puk 92 [] (trA (Tr.sym lispB [116]))]) Tryz.func52 (by kernel_rfl) (by kernel_rfl) ⟨p_oT, trivial⟩
  | false => exact pwalk (an := [.av (trA nilT)]) (ls := []) (ps := [Puk 50 [] (obA nilT.ob)]) Tryz.func52 (by kernel_rfl) (by kernel_rfl) ⟨p_oNil, trivial⟩
theorem p_rTru (b : Bool) : Puk 103 [boA b] (trA (truT b)) := by
  cases b with
  | true => exact pwalk (an := [.av (trA (.sym lispB [116]))]) (ls := []) (ps := [Puk 38 [] (trA (Tr.sym lispB [116]))]) Tryz.func103 (by kernel_rfl) (by kernel_rfl) ⟨p_rT, trivial⟩
  | false => exact pwalk (an := [.av (trA nilT)]) (ls := []) (ps := [Puk 30 [] (obA nilT.ob)]) Tryz.func103 (by kernel_rfl) (by kernel_rfl) ⟨p_rNil, trivial⟩
theorem p_oFix (t : Tr) : Puk 97 [trA t] (trA (.num t.val)) := by
  cases t with
  | num q => exact pwalk (an := []) (ls := []) (ps := []) Tryz.func97 (by kernel_rfl) (by kernel_rfl) trivial
  | txt s => exact pwalk (an := [.no, .av (trA (.num ((0 : Int) : Rat)))]) (ls := []) (ps := [Puk 51 [(inA 0)] (trA (Tr.num ↑0))]) Tryz.func97 (by kernel_rfl) (by kernel_rfl) ⟨p_oInt 0 (by decide) (by decide), trivial⟩
  | sym p s => exact pwalk (an := [.no, .av (trA (.num ((0 : Int) : Rat)))]) (ls := []) (ps := [Puk 51 [(inA 0)] (trA (Tr.num ↑0))]) Tryz.func97 (by kernel_rfl) (by kernel_rfl) ⟨p_oInt 0 (by decide) (by decide), trivial⟩
  | cons a d => exact pwalk (an := [.no, .av (trA (.num ((0 : Int) : Rat)))]) (ls := []) (ps := [Puk 51 [(inA 0)] (trA (Tr.num ↑0))]) Tryz.func97 (by kernel_rfl) (by kernel_rfl) ⟨p_oInt 0 (by decide) (by decide), trivial⟩
theorem p_oHalf0 (t : Tr) : Puk 94 [trA t, inA 0] (trA t.carT) := by
  cases t with
  | num q => exact pwalk (an := [.no, .av (trA nilT)]) (ls := []) (ps := [Puk 50 [] (obA nilT.ob)]) Tryz.func94 (by kernel_rfl) (by kernel_rfl) ⟨p_oNil, trivial⟩
  | txt s => exact pwalk (an := [.no, .av (trA nilT)]) (ls := []) (ps := [Puk 50 [] (obA nilT.ob)]) Tryz.func94 (by kernel_rfl) (by kernel_rfl) ⟨p_oNil, trivial⟩
  | sym p s => exact pwalk (an := [.no, .av (trA nilT)]) (ls := []) (ps := [Puk 50 [] (obA nilT.ob)]) Tryz.func94 (by kernel_rfl) (by kernel_rfl) ⟨p_oNil, trivial⟩
  | cons a d => exact pwalk (an := [.no, .no, .no, .av (pinO a.ob)]) (ls := []) (ps := [IxAt (List.map Ob.enc (a.cons d).ob.pair) 0 7 (encL a.ob)]) Tryz.func94 (by kernel_rfl) (by kernel_rfl) ⟨ix_obj (l := [a.ob, d.ob]) (i := 0) rfl, trivial⟩
theorem p_oHalf1 (t : Tr) : Puk 94 [trA t, inA 1] (trA t.cdrT) := by
  cases t with
  | num q => exact pwalk (an := [.no, .av (trA nilT)]) (ls := []) (ps := [Puk 50 [] (obA nilT.ob)]) Tryz.func94 (by kernel_rfl) (by kernel_rfl) ⟨p_oNil, trivial⟩
  | txt s => exact pwalk (an := [.no, .av (trA nilT)]) (ls := []) (ps := [Puk 50 [] (obA nilT.ob)]) Tryz.func94 (by kernel_rfl) (by kernel_rfl) ⟨p_oNil, trivial⟩
  | sym p s => exact pwalk (an := [.no, .av (trA nilT)]) (ls := []) (ps := [Puk 50 [] (obA nilT.ob)]) Tryz.func94 (by kernel_rfl) (by kernel_rfl) ⟨p_oNil, trivial⟩
  | cons a d => exact pwalk (an := [.no, .no, .no, .av (pinO d.ob)]) (ls := []) (ps := [IxAt (List.map Ob.enc (a.cons d).ob.pair) 1 7 (encL d.ob)]) Tryz.func94 (by kernel_rfl) (by kernel_rfl) ⟨ix_obj (l := [a.ob, d.ob]) (i := 1) rfl, trivial⟩
theorem p_rStr (t : Tr) : Puk 107 [trA t] (stA t.tx) := by
  cases t with
  | num q => exact pwalk (an := []) (ls := []) (ps := []) Tryz.func107 (by kernel_rfl) (by kernel_rfl) trivial
  | txt s => exact pwalk (an := []) (ls := []) (ps := []) Tryz.func107 (by kernel_rfl) (by kernel_rfl) trivial
  | sym p s => exact pwalk (an := []) (ls := []) (ps := []) Tryz.func107 (by kernel_rfl) (by kernel_rfl) trivial
  | cons a d => exact pwalk (an := []) (ls := []) (ps := []) Tryz.func107 (by kernel_rfl) (by kernel_rfl) trivial
/-- what 'index' of the code returns with its truth value -/
def ixN (x i : Tr) : Int := if x.isT && i.isI then (smV i.ob.num).1 else 0
theorem ixV_some {x i : Tr} {n : Int} (h : x.ixV i = some n) : ixN x i = n ∧ x.isT = true ∧ i.isI = true ∧ 0 ≤ n ∧ n < x.tx.length := by
  unfold Tr.ixV at h
  split at h
  · rename_i hc
    simp only [Bool.and_eq_true, decide_eq_true_eq] at hc
    cases h
    unfold ixN
    rw [if_pos (by rw [hc.1.1.1.1, hc.1.1.1.2]; rfl)]
    exact ⟨rfl, hc.1.1.1.1, hc.1.1.1.2, hc.1.2, hc.2⟩
  · cases h
theorem ixV_b (x i : Tr) : (x.ixV i).isSome = (x.isT && i.isI && (smV i.ob.num).2 && decide (0 ≤ (smV i.ob.num).1) && decide ((smV i.ob.num).1 < x.tx.length)) := by
  unfold Tr.ixV
  split
  · rename_i h; rw [h]; rfl
  · rename_i h; simp only [Bool.not_eq_true] at h; rw [h]; rfl
theorem octV_b (x : Tr) : (x.octV).isSome = (x.isI && (smV x.ob.num).2 && decide (0 ≤ (smV x.ob.num).1) && decide ((smV x.ob.num).1 ≤ 255)) := by
  unfold Tr.octV
  split
  · rename_i h; rw [h]; rfl
  · rename_i h; simp only [Bool.not_eq_true] at h; rw [h]; rfl
theorem p_oIx {k : Nat} (x : Tr) {i : Tr} (hi : i.Ok k) (hk : k ≤ 100000) : Puk 49 [trA x, trA i] (.tup [inA (ixN x i), boA (x.ixV i).isSome]) := by
  rw [ixV_b]
  cases x with
  | num q => exact pwalk (an := []) (ls := []) (ps := []) Tryz.func49 (by kernel_rfl) (by kernel_rfl) trivial
  | sym p s => exact pwalk (an := []) (ls := []) (ps := []) Tryz.func49 (by kernel_rfl) (by kernel_rfl) trivial
  | cons a d => exact pwalk (an := []) (ls := []) (ps := []) Tryz.func49 (by kernel_rfl) (by kernel_rfl) trivial
  | txt s =>
    unfold ixN
    cases hI : i.isI with
    | false => exact pwalk (an := [.no, yF]) (ls := []) (ps := [Puk 89 [(obA i.ob)] (boA false)]) Tryz.func49 (by kernel_rfl) (by kernel_rfl) ⟨(p_oIsI i).b ((Tr.isI_ob i).trans hI), trivial⟩
    | true =>
      have hs := p_oSmall (l := i.ob.num) (Nat.le_trans (hi.num_len hk) (by decide))
      have ht : (Tr.txt s).tx = s := rfl
      rw [ht]
      generalize hp : smV i.ob.num = p at hs ⊢
      obtain ⟨n, b⟩ := p
      cases b with
      | false => exact pwalk (an := [.no, yT, .av (.tup [inA n, boA false])]) (ls := []) (ps := [Puk 89 [(obA i.ob)] (boA true), Puk 90 [(stA i.ob.num)] (.tup [(inA n), (boA false)])]) Tryz.func49 (by kernel_rfl) (by kernel_rfl) ⟨(p_oIsI i).b ((Tr.isI_ob i).trans hI), hs, trivial⟩
      | true =>
        by_cases h0 : 0 ≤ n
        · rw [decide_eq_true h0]
          by_cases h1 : n < s.length
          · rw [decide_eq_true h1]
            exact pwalk (an := [.no, yT, .av (.tup [inA n, boA true]), yT, .no, yT]) (ls := []) (ps := [Puk 89 [(obA i.ob)] (boA true), Puk 90 [(stA i.ob.num)] (.tup [(inA n), (boA true)]), Bn .geq 3 (.tmp 25) (.const (vi 0)) (vi n) (vi 0) bT, Bn .lss 3 (.tmp 29) (.tmp 32) (vi n) (vi (↑{ data := (Tr.txt s).ob.text.toArray : ByteArray }.data.toList.length)) bT]) Tryz.func49 (by kernel_rfl) (by kernel_rfl) ⟨(p_oIsI i).b ((Tr.isI_ob i).trans hI), hs, bin_ige (decide_eq_true h0), bin_ilt (decide_eq_true h1), trivial⟩
          · rw [decide_eq_false h1]
            exact pwalk (an := [.no, yT, .av (.tup [inA n, boA true]), yT, .no, yF]) (ls := []) (ps := [Puk 89 [(obA i.ob)] (boA true), Puk 90 [(stA i.ob.num)] (.tup [(inA n), (boA true)]), Bn .geq 3 (.tmp 25) (.const (vi 0)) (vi n) (vi 0) bT, Bn .lss 3 (.tmp 29) (.tmp 32) (vi n) (vi (↑{ data := (Tr.txt s).ob.text.toArray : ByteArray }.data.toList.length)) bF]) Tryz.func49 (by kernel_rfl) (by kernel_rfl) ⟨(p_oIsI i).b ((Tr.isI_ob i).trans hI), hs, bin_ige (decide_eq_true h0), bin_ilt (decide_eq_false h1), trivial⟩
        · rw [decide_eq_false h0]
          exact pwalk (an := [.no, yT, .av (.tup [inA n, boA true]), yF]) (ls := []) (ps := [Puk 89 [(obA i.ob)] (boA true), Puk 90 [(stA i.ob.num)] (.tup [(inA n), (boA true)]), Bn .geq 3 (.tmp 25) (.const (vi 0)) (vi n) (vi 0) bF]) Tryz.func49 (by kernel_rfl) (by kernel_rfl) ⟨(p_oIsI i).b ((Tr.isI_ob i).trans hI), hs, bin_ige (decide_eq_false h0), trivial⟩
def ixR (x i : Tr) : Int := match x.ixV i with
  | some n => n
  | none => 0
theorem ixR_eq (x i : Tr) : ixR x i = if x.isT && i.isI && (smV i.ob.num).2 && decide (0 ≤ (smV i.ob.num).1) && decide ((smV i.ob.num).1 < x.tx.length) then (smV i.ob.num).1 else 0 := by
  unfold ixR Tr.ixV
  split <;> rename_i h <;> split at h <;> first | (cases h; rename_i hc; rw [if_pos hc]) | (cases h; done) | (rename_i hc; rw [if_neg hc])
theorem p_rIx {k : Nat} (x : Tr) {i : Tr} (hi : i.Ok k) (hk : k ≤ 100000) : Puk 69 [trA x, trA i] (.tup [inA (ixR x i), boA (x.ixV i).isSome]) := by
  rw [ixR_eq, ixV_b]
  cases x with
  | num q => exact pwalk (an := []) (ls := []) (ps := []) Tryz.func69 (by kernel_rfl) (by kernel_rfl) trivial
  | sym p s => exact pwalk (an := []) (ls := []) (ps := []) Tryz.func69 (by kernel_rfl) (by kernel_rfl) trivial
  | cons a d => exact pwalk (an := []) (ls := []) (ps := []) Tryz.func69 (by kernel_rfl) (by kernel_rfl) trivial
  | txt s =>
    cases hI : i.isI with
    | false => exact pwalk (an := [.no, yF]) (ls := []) (ps := [Puk 40 [(obA i.ob)] (boA false)]) Tryz.func69 (by kernel_rfl) (by kernel_rfl) ⟨(p_rIsI i).b ((Tr.isI_ob i).trans hI), trivial⟩
    | true =>
      have hs := p_rSmall (l := i.ob.num) (Nat.le_trans (hi.num_len hk) (by decide))
      have ht : (Tr.txt s).tx = s := rfl
      rw [ht]
      generalize hp : smV i.ob.num = p at hs ⊢
      obtain ⟨n, b⟩ := p
      cases b with
      | false => exact pwalk (an := [.no, yT, .av (.tup [inA n, boA false])]) (ls := []) (ps := [Puk 40 [(obA i.ob)] (boA true), Puk 112 [(stA i.ob.num)] (.tup [(inA n), (boA false)])]) Tryz.func69 (by kernel_rfl) (by kernel_rfl) ⟨(p_rIsI i).b ((Tr.isI_ob i).trans hI), hs, trivial⟩
      | true =>
        by_cases h0 : 0 ≤ n
        · rw [decide_eq_true h0]
          by_cases h1 : n < s.length
          · rw [decide_eq_true h1]
            exact pwalk (an := [.no, yT, .av (.tup [inA n, boA true]), yF, .no, yF]) (ls := []) (ps := [Puk 40 [(obA i.ob)] (boA true), Puk 112 [(stA i.ob.num)] (.tup [(inA n), (boA true)]), Bn .lss 3 (.tmp 25) (.const (vi 0)) (vi n) (vi 0) bF, Bn .geq 3 (.tmp 29) (.tmp 32) (vi n) (vi (↑{ data := (Tr.txt s).ob.text.toArray : ByteArray }.data.toList.length)) bF]) Tryz.func69 (by kernel_rfl) (by kernel_rfl) ⟨(p_rIsI i).b ((Tr.isI_ob i).trans hI), hs, bin_ilt (decide_eq_false (by omega)), bin_ige (b := (s.length : Int)) (decide_eq_false (by omega)), trivial⟩
          · rw [decide_eq_false h1]
            exact pwalk (an := [.no, yT, .av (.tup [inA n, boA true]), yF, .no, yT]) (ls := []) (ps := [Puk 40 [(obA i.ob)] (boA true), Puk 112 [(stA i.ob.num)] (.tup [(inA n), (boA true)]), Bn .lss 3 (.tmp 25) (.const (vi 0)) (vi n) (vi 0) bF, Bn .geq 3 (.tmp 29) (.tmp 32) (vi n) (vi (↑{ data := (Tr.txt s).ob.text.toArray : ByteArray }.data.toList.length)) bT]) Tryz.func69 (by kernel_rfl) (by kernel_rfl) ⟨(p_rIsI i).b ((Tr.isI_ob i).trans hI), hs, bin_ilt (decide_eq_false (by omega)), bin_ige (b := (s.length : Int)) (decide_eq_true (by omega)), trivial⟩
        · rw [decide_eq_false h0]
          exact pwalk (an := [.no, yT, .av (.tup [inA n, boA true]), yT]) (ls := []) (ps := [Puk 40 [(obA i.ob)] (boA true), Puk 112 [(stA i.ob.num)] (.tup [(inA n), (boA true)]), Bn .lss 3 (.tmp 25) (.const (vi 0)) (vi n) (vi 0) bT]) Tryz.func69 (by kernel_rfl) (by kernel_rfl) ⟨(p_rIsI i).b ((Tr.isI_ob i).trans hI), hs, bin_ilt (decide_eq_true (by omega)), trivial⟩
theorem p_oCode {k : Nat} {x : Tr} (hx : x.Ok k) (hk : k ≤ 100000) : Puk 66 [trA x] (.tup [.dt (.val (.int .u8 (IntKind.u8.wrap (smV x.ob.num).1))), boA (x.octV).isSome]) := by
  rw [octV_b]
  have hs := p_oSmall (l := x.ob.num) (Nat.le_trans (hx.num_len hk) (by decide))
  generalize hp : smV x.ob.num = p at hs ⊢
  obtain ⟨n, b⟩ := p
  cases hI : x.isI with
  | false => exact pwalk (an := [.av (.tup [inA n, boA b]), .no, yF]) (ls := []) (ps := [Puk 90 [(stA x.ob.num)] (.tup [(inA n), (boA b)]), Puk 89 [(obA x.ob)] (boA false)]) Tryz.func66 (by kernel_rfl) (by kernel_rfl) ⟨hs, (p_oIsI x).b ((Tr.isI_ob x).trans hI), trivial⟩
  | true =>
    cases b with
    | false => exact pwalk (an := [.av (.tup [inA n, boA false]), .no, yT]) (ls := []) (ps := [Puk 90 [(stA x.ob.num)] (.tup [(inA n), (boA false)]), Puk 89 [(obA x.ob)] (boA true)]) Tryz.func66 (by kernel_rfl) (by kernel_rfl) ⟨hs, (p_oIsI x).b ((Tr.isI_ob x).trans hI), trivial⟩
    | true =>
      by_cases h0 : 0 ≤ n
      · rw [decide_eq_true h0]
        by_cases h1 : n ≤ 255
        · rw [decide_eq_true h1]
          exact pwalk (an := [.av (.tup [inA n, boA true]), .no, yT, yT, yT]) (ls := []) (ps := [Puk 90 [(stA x.ob.num)] (.tup [(inA n), (boA true)]), Puk 89 [(obA x.ob)] (boA true), Bn .geq 3 (.tmp 20) (.const (vi 0)) (vi n) (vi 0) bT, Bn .leq 3 (.tmp 24) (.const (vi 255)) (vi n) (vi 255) bT]) Tryz.func66 (by kernel_rfl) (by kernel_rfl) ⟨hs, (p_oIsI x).b ((Tr.isI_ob x).trans hI), bin_ige (decide_eq_true h0), bin_ile (decide_eq_true h1), trivial⟩
        · rw [decide_eq_false h1]
          exact pwalk (an := [.av (.tup [inA n, boA true]), .no, yT, yT, yF]) (ls := []) (ps := [Puk 90 [(stA x.ob.num)] (.tup [(inA n), (boA true)]), Puk 89 [(obA x.ob)] (boA true), Bn .geq 3 (.tmp 20) (.const (vi 0)) (vi n) (vi 0) bT, Bn .leq 3 (.tmp 24) (.const (vi 255)) (vi n) (vi 255) bF]) Tryz.func66 (by kernel_rfl) (by kernel_rfl) ⟨hs, (p_oIsI x).b ((Tr.isI_ob x).trans hI), bin_ige (decide_eq_true h0), bin_ile (decide_eq_false h1), trivial⟩
      · rw [decide_eq_false h0]
        exact pwalk (an := [.av (.tup [inA n, boA true]), .no, yT, yF]) (ls := []) (ps := [Puk 90 [(stA x.ob.num)] (.tup [(inA n), (boA true)]), Puk 89 [(obA x.ob)] (boA true), Bn .geq 3 (.tmp 20) (.const (vi 0)) (vi n) (vi 0) bF]) Tryz.func66 (by kernel_rfl) (by kernel_rfl) ⟨hs, (p_oIsI x).b ((Tr.isI_ob x).trans hI), bin_ige (decide_eq_false h0), trivial⟩
def ocR (x : Tr) : Int := if x.isI && (smV x.ob.num).2 && decide (0 ≤ (smV x.ob.num).1) && decide ((smV x.ob.num).1 ≤ 255) then IntKind.u8.wrap (smV x.ob.num).1 else 0
theorem p_rOct {k : Nat} {x : Tr} (hx : x.Ok k) (hk : k ≤ 100000) : Puk 70 [trA x] (.tup [.dt (.val (.int .u8 (ocR x))), boA (x.octV).isSome]) := by
  rw [octV_b]
  unfold ocR
  have hs := p_rSmall (l := x.ob.num) (Nat.le_trans (hx.num_len hk) (by decide))
  generalize hp : smV x.ob.num = p at hs ⊢
  obtain ⟨n, b⟩ := p
  cases hI : x.isI with
  | false => exact pwalk (an := [yF]) (ls := []) (ps := [Puk 40 [(obA x.ob)] (boA false)]) Tryz.func70 (by kernel_rfl) (by kernel_rfl) ⟨(p_rIsI x).b ((Tr.isI_ob x).trans hI), trivial⟩
  | true =>
    cases b with
    | false => exact pwalk (an := [yT, .av (.tup [inA n, boA false])]) (ls := []) (ps := [Puk 40 [(obA x.ob)] (boA true), Puk 112 [(stA x.ob.num)] (.tup [(inA n), (boA false)])]) Tryz.func70 (by kernel_rfl) (by kernel_rfl) ⟨(p_rIsI x).b ((Tr.isI_ob x).trans hI), hs, trivial⟩
    | true =>
      by_cases h0 : 0 ≤ n
      · rw [decide_eq_true h0]
        by_cases h1 : n ≤ 255
        · rw [decide_eq_true h1]
          exact pwalk (an := [yT, .av (.tup [inA n, boA true]), yF, yF]) (ls := []) (ps := [Puk 40 [(obA x.ob)] (boA true), Puk 112 [(stA x.ob.num)] (.tup [(inA n), (boA true)]), Bn .lss 3 (.tmp 18) (.const (vi 0)) (vi n) (vi 0) bF, Bn .gtr 3 (.tmp 22) (.const (vi 255)) (vi n) (vi 255) bF]) Tryz.func70 (by kernel_rfl) (by kernel_rfl) ⟨(p_rIsI x).b ((Tr.isI_ob x).trans hI), hs, bin_ilt (decide_eq_false (by omega)), bin_igt (decide_eq_false (by omega)), trivial⟩
        · rw [decide_eq_false h1]
          exact pwalk (an := [yT, .av (.tup [inA n, boA true]), yF, yT]) (ls := []) (ps := [Puk 40 [(obA x.ob)] (boA true), Puk 112 [(stA x.ob.num)] (.tup [(inA n), (boA true)]), Bn .lss 3 (.tmp 18) (.const (vi 0)) (vi n) (vi 0) bF, Bn .gtr 3 (.tmp 22) (.const (vi 255)) (vi n) (vi 255) bT]) Tryz.func70 (by kernel_rfl) (by kernel_rfl) ⟨(p_rIsI x).b ((Tr.isI_ob x).trans hI), hs, bin_ilt (decide_eq_false (by omega)), bin_igt (decide_eq_true (by omega)), trivial⟩
      · rw [decide_eq_false h0]
        exact pwalk (an := [yT, .av (.tup [inA n, boA true]), yT]) (ls := []) (ps := [Puk 40 [(obA x.ob)] (boA true), Puk 112 [(stA x.ob.num)] (.tup [(inA n), (boA true)]), Bn .lss 3 (.tmp 18) (.const (vi 0)) (vi n) (vi 0) bT]) Tryz.func70 (by kernel_rfl) (by kernel_rfl) ⟨(p_rIsI x).b ((Tr.isI_ob x).trans hI), hs, bin_ilt (decide_eq_true (by omega)), trivial⟩
theorem p_oIntern {x y : Tr} {k : Nat} (hx : x.Ok k) (hy : y.Ok k) : Puk 48 [trA x, trA y] (trA (Tr.ap 20 x y nilT)) := by
  have lx : x.tx.length ≤ 100000 := hx.tx_len
  have ly : y.tx.length ≤ 100000 := hy.tx_len
  have e : Tr.ap 20 x y nilT = if x.isT && y.isT && symOk ⟨y.tx, x.tx⟩ then .sym y.tx x.tx else nilT := rfl
  rw [e]
  cases hX : x.isT with
  | false => exact pwalk (an := [yT, .av (trA nilT)]) (ls := []) (ps := [Bn .neq 3 (.tmp 12) (.const (vi 3)) (vi x.ob.kind) (vi 3) bT, Puk 50 [] (obA nilT.ob)]) Tryz.func48 (by kernel_rfl) (by kernel_rfl) ⟨bin_ine (by rw [isT_k, hX]; rfl), p_oNil, trivial⟩
  | true =>
    cases hY : y.isT with
    | false => exact pwalk (an := [yF, yT, .av (trA nilT)]) (ls := []) (ps := [Bn .neq 3 (.tmp 12) (.const (vi 3)) (vi x.ob.kind) (vi 3) bF, Bn .neq 3 (.tmp 16) (.const (vi 3)) (vi y.ob.kind) (vi 3) bT, Puk 50 [] (obA nilT.ob)]) Tryz.func48 (by kernel_rfl) (by kernel_rfl) ⟨bin_ine (by rw [isT_k, hX]; rfl), bin_ine (by rw [isT_k, hY]; rfl), p_oNil, trivial⟩
    | true =>
      cases hS : symOk ⟨y.tx, x.tx⟩ with
      | false => exact pwalk (an := [yF, yF, yF, .av (trA nilT)]) (ls := []) (ps := [Bn .neq 3 (.tmp 12) (.const (vi 3)) (vi x.ob.kind) (vi 3) bF, Bn .neq 3 (.tmp 16) (.const (vi 3)) (vi y.ob.kind) (vi 3) bF, Puk 87 [(syA y.ob.text x.ob.text)] (boA false), Puk 50 [] (obA nilT.ob)]) Tryz.func48 (by kernel_rfl) (by kernel_rfl) ⟨bin_ine (by rw [isT_k, hX]; rfl), bin_ine (by rw [isT_k, hY]; rfl), (p_oSyV (p := y.tx) (s := x.tx) (by omega) (by omega)).b hS, p_oNil, trivial⟩
      | true => exact pwalk (an := [yF, yF, yT, .av (trA (.sym y.tx x.tx))]) (ls := []) (ps := [Bn .neq 3 (.tmp 12) (.const (vi 3)) (vi x.ob.kind) (vi 3) bF, Bn .neq 3 (.tmp 16) (.const (vi 3)) (vi y.ob.kind) (vi 3) bF, Puk 87 [(syA y.ob.text x.ob.text)] (boA true), Puk 88 [(syA y.ob.text x.ob.text)] (trA (Tr.sym y.tx x.tx))]) Tryz.func48 (by kernel_rfl) (by kernel_rfl) ⟨bin_ine (by rw [isT_k, hX]; rfl), bin_ine (by rw [isT_k, hY]; rfl), (p_oSyV (p := y.tx) (s := x.tx) (by omega) (by omega)).b hS, p_oSym _ _, trivial⟩
end Go.Proofs.YtmkcnjfhdfanoaaGreatDoor
/- The primitives of one argument and of two, in both texts, on trees. -/
namespace Go.Proofs.YtmkcnjfhdfanoaaGreatDoor
open Go.RowKit

/-- what an argument of a primitive is in the statements -/
structure Arg (x : Tr) : Prop where
  ok : x.Ok 120
  tx : x.tx.length ≤ 40000
theorem Arg.rb {x : Tr} (h : Arg x) : Rb 120 x.val := h.ok.val (by decide)
theorem Arg.n {x : Tr} (h : Arg x) : (Lib.itoa x.val.num).length ≤ 121 := Rb.nlen h.rb
theorem Arg.d {x : Tr} (h : Arg x) : (Lib.itoa (x.val.den : Int)).length ≤ 121 := Rb.dlen h.rb
theorem p_oFl {x : Tr} (h : Arg x) : Puk 98 [stA (ratO x.val).num, stA (ratO x.val).den] (.tup [stA (Lib.itoa (qd x.val.num x.val.den)), stA (Lib.itoa (rm x.val.num x.val.den))]) := by
  have h1 := h.n
  have h2 := h.d
  have := p_oDiv (a := (ratO x.val).num) (b := (ratO x.val).den) (by show (Lib.itoa x.val.num).length ≤ _; omega) (by show (Lib.itoa (x.val.den : Int)).length ≤ _; omega)
  rw [show Dec.dval (ratO x.val).num = x.val.num from Dec.dval_itoa _, show Dec.dval (ratO x.val).den = (x.val.den : Int) from Dec.dval_itoa (x.val.den : Int)] at this
  exact this
theorem p_rFl {x : Tr} (h : Arg x) : Puk 106 [stA (ratO x.val).num, stA (ratO x.val).den] (.tup [stA (Lib.itoa (qd x.val.num x.val.den)), stA (Lib.itoa (rm x.val.num x.val.den))]) := by
  have h1 := h.n
  have h2 := h.d
  have := p_rDiv (a := (ratO x.val).num) (b := (ratO x.val).den) (by show (Lib.itoa x.val.num).length ≤ _; omega) (by show (Lib.itoa (x.val.den : Int)).length ≤ _; omega)
  rw [show Dec.dval (ratO x.val).num = x.val.num from Dec.dval_itoa _, show Dec.dval (ratO x.val).den = (x.val.den : Int) from Dec.dval_itoa (x.val.den : Int)] at this
  exact this
theorem itoa_len {q : Int} {k : Nat} (hk : 1 ≤ k) (h : q.natAbs < 10 ^ k) : (Lib.itoa q).length ≤ k + 1 := itoa_length_any _ hk h
theorem qd_lt {x : Tr} (h : Arg x) : (qd x.val.num x.val.den).natAbs < 10 ^ 121 := by
  have h1 := h.rb.num
  have hp : (0 : Int) < x.val.den := Int.natCast_pos.2 x.val.den_pos
  unfold qd
  rw [if_neg (by omega), if_pos hp]
  have h2 : (x.val.num / (x.val.den : Int)).natAbs ≤ x.val.num.natAbs := Int.natAbs_ediv_le_natAbs _ _
  exact Nat.lt_of_le_of_lt h2 (Nat.lt_of_lt_of_le h1 (Nat.pow_le_pow_right (by decide) (by decide)))
theorem qd_len {x : Tr} (h : Arg x) : (Lib.itoa (qd x.val.num x.val.den)).length ≤ 1000 := Nat.le_trans (itoa_len (by decide) (qd_lt h)) (by decide)
theorem p_oOne3 {x : Tr} (_hx : Arg x) : Puk 55 [stA [99, 97, 114], trA x] (trA (Tr.ap 3 x nilT nilT)) :=
  pwalk (an := [.no, .av (trA x.carT)]) (ls := []) (ps := [Puk 94 [(obA x.ob), (inA 0)] (obA x.carT.ob)]) Tryz.func55 (by kernel_rfl) (by kernel_rfl) ⟨p_oHalf0 x, trivial⟩
theorem p_oOne4 {x : Tr} (_hx : Arg x) : Puk 55 [stA [99, 100, 114], trA x] (trA (Tr.ap 4 x nilT nilT)) :=
  pwalk (an := [.no, .no, .av (trA x.cdrT)]) (ls := []) (ps := [Puk 94 [(obA x.ob), (inA 1)] (obA x.cdrT.ob)]) Tryz.func55 (by kernel_rfl) (by kernel_rfl) ⟨p_oHalf1 x, trivial⟩
theorem p_oOne5 {x : Tr} (_hx : Arg x) : Puk 55 [stA [99, 111, 110, 115, 112], trA x] (trA (Tr.ap 5 x nilT nilT)) :=
  pwalk (an := [.no, .no, .no, .av (boA x.isC), .av (trA (truT x.isC))]) (ls := []) (ps := [Bn .eql 3 (.tmp 21) (.const (vi 4)) (vi x.ob.kind) (vi 4) (Value.bool x.isC), Puk 52 [(boA x.isC)] (trA (truT x.isC))]) Tryz.func55 (by kernel_rfl) (by kernel_rfl) ⟨bin_ieq (isC_k x), p_oTru _, trivial⟩
theorem p_oOne6 {x : Tr} (_hx : Arg x) : Puk 55 [stA [115, 121, 109, 98, 111, 108, 112], trA x] (trA (Tr.ap 6 x nilT nilT)) :=
  pwalk (an := [.no, .no, .no, .no, .av (boA x.isY), .av (trA (truT x.isY))]) (ls := []) (ps := [Bn .eql 3 (.tmp 27) (.const (vi 2)) (vi x.ob.kind) (vi 2) (Value.bool x.isY), Puk 52 [(boA x.isY)] (trA (truT x.isY))]) Tryz.func55 (by kernel_rfl) (by kernel_rfl) ⟨bin_ieq (isY_k x), p_oTru _, trivial⟩
theorem p_oOne7 {x : Tr} (_hx : Arg x) : Puk 55 [stA [115, 116, 114, 105, 110, 103, 112], trA x] (trA (Tr.ap 7 x nilT nilT)) :=
  pwalk (an := [.no, .no, .no, .no, .no, .av (boA x.isT), .av (trA (truT x.isT))]) (ls := []) (ps := [Bn .eql 3 (.tmp 33) (.const (vi 3)) (vi x.ob.kind) (vi 3) (Value.bool x.isT), Puk 52 [(boA x.isT)] (trA (truT x.isT))]) Tryz.func55 (by kernel_rfl) (by kernel_rfl) ⟨bin_ieq (isT_k x), p_oTru _, trivial⟩
theorem p_oOne8 {x : Tr} (_hx : Arg x) : Puk 55 [stA [114, 97, 116, 105, 111, 110, 97, 108, 112], trA x] (trA (Tr.ap 8 x nilT nilT)) :=
  pwalk (an := [.no, .no, .no, .no, .no, .no, .av (boA x.isN), .av (trA (truT x.isN))]) (ls := []) (ps := [Bn .eql 3 (.tmp 39) (.const (vi 1)) (vi x.ob.kind) (vi 1) (Value.bool x.isN), Puk 52 [(boA x.isN)] (trA (truT x.isN))]) Tryz.func55 (by kernel_rfl) (by kernel_rfl) ⟨bin_ieq (isN_k x), p_oTru _, trivial⟩
theorem p_oOne9 {x : Tr} (_hx : Arg x) : Puk 55 [stA [105, 110, 116, 101, 103, 101, 114, 112], trA x] (trA (Tr.ap 9 x nilT nilT)) :=
  pwalk (an := [.no, .no, .no, .no, .no, .no, .no, .av (boA x.isI), .av (trA (truT x.isI))]) (ls := []) (ps := [Puk 89 [(obA x.ob)] (boA x.isI), Puk 52 [(boA x.isI)] (trA (truT x.isI))]) Tryz.func55 (by kernel_rfl) (by kernel_rfl) ⟨(p_oIsI x).b (Tr.isI_ob x), p_oTru _, trivial⟩
theorem p_oOne12 {x : Tr} (hx : Arg x) : Puk 55 [stA [117, 110, 97, 114, 121, 45, 45], trA x] (trA (Tr.ap 12 x nilT nilT)) :=
  pwalk (an := [.no, .no, .no, .no, .no, .no, .no, .no, .av (trA (.num (-x.val)))]) (ls := []) (ps := [Puk 95 [(obA x.ob)] (obA ((Tr.num (-x.val)).ob))]) Tryz.func55 (by kernel_rfl) (by kernel_rfl) ⟨p_oOpp hx.ok (by decide) (by decide), trivial⟩
theorem p_oOne13 {x : Tr} (hx : Arg x) : Puk 55 [stA [117, 110, 97, 114, 121, 45, 47], trA x] (trA (Tr.ap 13 x nilT nilT)) :=
  pwalk (an := [.no, .no, .no, .no, .no, .no, .no, .no, .no, .av (trA (.num x.val⁻¹))]) (ls := []) (ps := [Puk 96 [(obA x.ob)] (obA ((Tr.num x.val⁻¹).ob))]) Tryz.func55 (by kernel_rfl) (by kernel_rfl) ⟨p_oInv hx.ok (by decide) (by decide), trivial⟩
theorem p_oOne15 {x : Tr} (hx : Arg x) : Puk 55 [stA [110, 117, 109, 101, 114, 97, 116, 111, 114], trA x] (trA (Tr.ap 15 x nilT nilT)) :=
  pwalk (an := [.no, .no, .no, .no, .no, .no, .no, .no, .no, .no, .av (trA (.num x.val)), .av (trA (.num (x.val.num : Rat)))]) (ls := []) (ps := [Puk 97 [(obA x.ob)] (trA (Tr.num x.val)), Puk 85 [(stA (Tr.num x.val).ob.num), (stA [49])] (trA (Tr.num ↑x.val.num))]) Tryz.func55 (by kernel_rfl) (by kernel_rfl) ⟨p_oFix x, p_oRatI (q := x.val.num) (a := (Tr.num x.val).ob.num) (by have := hx.n; show (Lib.itoa x.val.num).length ≤ _; omega) (Dec.dval_itoa x.val.num), trivial⟩
theorem p_oOne16 {x : Tr} (hx : Arg x) : Puk 55 [stA [100, 101, 110, 111, 109, 105, 110, 97, 116, 111, 114], trA x] (trA (Tr.ap 16 x nilT nilT)) :=
  pwalk (an := [.no, .no, .no, .no, .no, .no, .no, .no, .no, .no, .no, .av (trA (.num x.val)), .av (trA (.num ((x.val.den : Int) : Rat)))]) (ls := []) (ps := [Puk 97 [(obA x.ob)] (trA (Tr.num x.val)), Puk 85 [(stA (Tr.num x.val).ob.den), (stA [49])] (trA (Tr.num ↑↑x.val.den))]) Tryz.func55 (by kernel_rfl) (by kernel_rfl) ⟨p_oFix x, p_oRatI (q := (x.val.den : Int)) (a := (Tr.num x.val).ob.den) (by have := hx.d; show (Lib.itoa (x.val.den : Int)).length ≤ _; omega) (Dec.dval_itoa (x.val.den : Int)), trivial⟩
theorem p_oOne17 {x : Tr} (hx : Arg x) : Puk 55 [stA [102, 108, 111, 111, 114], trA x] (trA (Tr.ap 17 x nilT nilT)) :=
  pwalk (an := [.no, .no, .no, .no, .no, .no, .no, .no, .no, .no, .no, .no, .av (trA (.num x.val)), .av (trA (.num x.val)), .av (.tup [stA (Lib.itoa (qd x.val.num x.val.den)), stA (Lib.itoa (rm x.val.num x.val.den))]), .av (trA (.num ((qd x.val.num x.val.den : Int) : Rat)))]) (ls := []) (ps := [Puk 97 [(obA x.ob)] (trA (Tr.num x.val)), Puk 97 [(obA x.ob)] (trA (Tr.num x.val)), Puk 98 [(stA (Tr.num x.val).ob.num), (stA (Tr.num x.val).ob.den)] (.tup [(stA (Lib.itoa (qd x.val.num ↑x.val.den))), (stA (Lib.itoa (rm x.val.num ↑x.val.den)))]), Puk 85 [(stA (Lib.itoa (qd x.val.num ↑x.val.den))), (stA [49])] (obA ((Tr.num ↑(qd x.val.num ↑x.val.den)).ob))]) Tryz.func55 (by kernel_rfl) (by kernel_rfl) ⟨p_oFix x, p_oFix x, p_oFl hx, p_oRatI (a := Lib.itoa (qd x.val.num x.val.den)) (by have := qd_len hx; omega) (Dec.dval_itoa _), trivial⟩
theorem p_oOne18 {x : Tr} (_hx : Arg x) : Puk 55 [stA [115, 121, 109, 98, 111, 108, 45, 110, 97, 109, 101], trA x] (trA (Tr.ap 18 x nilT nilT)) :=
  pwalk (an := [.no, .no, .no, .no, .no, .no, .no, .no, .no, .no, .no, .no, .no, .av (trA (.txt x.ob.sn))]) (ls := []) (ps := [Puk 47 [(stA x.ob.sn)] (trA (Tr.txt x.ob.sn))]) Tryz.func55 (by kernel_rfl) (by kernel_rfl) ⟨p_oText _, trivial⟩
theorem p_oOne19 {x : Tr} (_hx : Arg x) : Puk 55 [stA [115, 121, 109, 98, 111, 108, 45, 112, 97, 99, 107, 97, 103, 101, 45, 110, 97, 109, 101], trA x] (trA (Tr.ap 19 x nilT nilT)) :=
  pwalk (an := [.no, .no, .no, .no, .no, .no, .no, .no, .no, .no, .no, .no, .no, .no, .av (trA (.txt x.ob.sp))]) (ls := []) (ps := [Puk 47 [(stA x.ob.sp)] (trA (Tr.txt x.ob.sp))]) Tryz.func55 (by kernel_rfl) (by kernel_rfl) ⟨p_oText _, trivial⟩
theorem p_oOne22 {x : Tr} (hx : Arg x) : Puk 55 [stA [115, 116, 114, 105, 110, 103, 45, 108, 101, 110, 103, 116, 104], trA x] (trA (Tr.ap 22 x nilT nilT)) :=
  pwalk (an := [.no, .no, .no, .no, .no, .no, .no, .no, .no, .no, .no, .no, .no, .no, .no, .no, .av (trA (.num ((x.tx.length : Int) : Rat)))]) (ls := []) (ps := [Puk 51 [(inA (x.ob.text.length : Int))] (trA (Tr.num ↑↑x.tx.length))]) Tryz.func55 (by kernel_rfl) (by kernel_rfl) ⟨p_oInt (x.tx.length : Int) (by omega) (by have := hx.tx; omega), trivial⟩
theorem p_rOne5 {x : Tr} (_hx : Arg x) : Puk 57 [stA [99, 111, 110, 115, 112], trA x] (trA (Tr.ap 5 x nilT nilT)) :=
  pwalk (an := [.av (trA (.num x.val)), .no, .no, .no, .av (boA x.isC), .av (trA (truT x.isC))]) (ls := []) (ps := [Puk 101 [(obA x.ob)] (trA (Tr.num x.val)), Bn .eql 3 (.tmp 33) (.const (vi 4)) (vi x.ob.kind) (vi 4) (Value.bool x.isC), Puk 103 [(boA x.isC)] (trA (truT x.isC))]) Tryz.func57 (by kernel_rfl) (by kernel_rfl) ⟨p_rFix x, bin_ieq (isC_k x), p_rTru _, trivial⟩
theorem p_rOne6 {x : Tr} (_hx : Arg x) : Puk 57 [stA [115, 121, 109, 98, 111, 108, 112], trA x] (trA (Tr.ap 6 x nilT nilT)) :=
  pwalk (an := [.av (trA (.num x.val)), .no, .no, .no, .no, .av (boA x.isY), .av (trA (truT x.isY))]) (ls := []) (ps := [Puk 101 [(obA x.ob)] (trA (Tr.num x.val)), Bn .eql 3 (.tmp 39) (.const (vi 2)) (vi x.ob.kind) (vi 2) (Value.bool x.isY), Puk 103 [(boA x.isY)] (trA (truT x.isY))]) Tryz.func57 (by kernel_rfl) (by kernel_rfl) ⟨p_rFix x, bin_ieq (isY_k x), p_rTru _, trivial⟩
theorem p_rOne7 {x : Tr} (_hx : Arg x) : Puk 57 [stA [115, 116, 114, 105, 110, 103, 112], trA x] (trA (Tr.ap 7 x nilT nilT)) :=
  pwalk (an := [.av (trA (.num x.val)), .no, .no, .no, .no, .no, .av (boA x.isT), .av (trA (truT x.isT))]) (ls := []) (ps := [Puk 101 [(obA x.ob)] (trA (Tr.num x.val)), Bn .eql 3 (.tmp 45) (.const (vi 3)) (vi x.ob.kind) (vi 3) (Value.bool x.isT), Puk 103 [(boA x.isT)] (trA (truT x.isT))]) Tryz.func57 (by kernel_rfl) (by kernel_rfl) ⟨p_rFix x, bin_ieq (isT_k x), p_rTru _, trivial⟩
theorem p_rOne8 {x : Tr} (_hx : Arg x) : Puk 57 [stA [114, 97, 116, 105, 111, 110, 97, 108, 112], trA x] (trA (Tr.ap 8 x nilT nilT)) :=
  pwalk (an := [.av (trA (.num x.val)), .no, .no, .no, .no, .no, .no, .av (boA x.isN), .av (trA (truT x.isN))]) (ls := []) (ps := [Puk 101 [(obA x.ob)] (trA (Tr.num x.val)), Bn .eql 3 (.tmp 51) (.const (vi 1)) (vi x.ob.kind) (vi 1) (Value.bool x.isN), Puk 103 [(boA x.isN)] (trA (truT x.isN))]) Tryz.func57 (by kernel_rfl) (by kernel_rfl) ⟨p_rFix x, bin_ieq (isN_k x), p_rTru _, trivial⟩
theorem p_rOne9 {x : Tr} (_hx : Arg x) : Puk 57 [stA [105, 110, 116, 101, 103, 101, 114, 112], trA x] (trA (Tr.ap 9 x nilT nilT)) :=
  pwalk (an := [.av (trA (.num x.val)), .no, .no, .no, .no, .no, .no, .no, .av (boA x.isI), .av (trA (truT x.isI))]) (ls := []) (ps := [Puk 101 [(obA x.ob)] (trA (Tr.num x.val)), Puk 40 [(obA x.ob)] (boA x.isI), Puk 103 [(boA x.isI)] (trA (truT x.isI))]) Tryz.func57 (by kernel_rfl) (by kernel_rfl) ⟨p_rFix x, (p_rIsI x).b (Tr.isI_ob x), p_rTru _, trivial⟩
theorem p_rOne12 {x : Tr} (hx : Arg x) : Puk 57 [stA [117, 110, 97, 114, 121, 45, 45], trA x] (trA (Tr.ap 12 x nilT nilT)) :=
  pwalk (an := [.av (trA (.num x.val)), .no, .no, .no, .no, .no, .no, .no, .no, .av (trA (.num (-x.val)))]) (ls := []) (ps := [Puk 101 [(obA x.ob)] (trA (Tr.num x.val)), Puk 104 [(obA x.ob)] (obA ((Tr.num (-x.val)).ob))]) Tryz.func57 (by kernel_rfl) (by kernel_rfl) ⟨p_rFix x, p_rOpp hx.ok (by decide) (by decide), trivial⟩
theorem p_rOne13 {x : Tr} (hx : Arg x) : Puk 57 [stA [117, 110, 97, 114, 121, 45, 47], trA x] (trA (Tr.ap 13 x nilT nilT)) :=
  pwalk (an := [.av (trA (.num x.val)), .no, .no, .no, .no, .no, .no, .no, .no, .no, .av (trA (.num x.val⁻¹))]) (ls := []) (ps := [Puk 101 [(obA x.ob)] (trA (Tr.num x.val)), Puk 105 [(obA x.ob)] (obA ((Tr.num x.val⁻¹).ob))]) Tryz.func57 (by kernel_rfl) (by kernel_rfl) ⟨p_rFix x, p_rInv hx.ok (by decide) (by decide), trivial⟩
theorem p_rOne15 {x : Tr} (hx : Arg x) : Puk 57 [stA [110, 117, 109, 101, 114, 97, 116, 111, 114], trA x] (trA (Tr.ap 15 x nilT nilT)) :=
  pwalk (an := [.av (trA (.num x.val)), .no, .no, .no, .no, .no, .no, .no, .no, .no, .no, .av (trA (.num (x.val.num : Rat)))]) (ls := []) (ps := [Puk 101 [(obA x.ob)] (trA (Tr.num x.val)), Puk 35 [(stA (Tr.num x.val).ob.num), (stA [49])] (trA (Tr.num ↑x.val.num))]) Tryz.func57 (by kernel_rfl) (by kernel_rfl) ⟨p_rFix x, p_rRatI (q := x.val.num) (a := (Tr.num x.val).ob.num) (by have := hx.n; show (Lib.itoa x.val.num).length ≤ _; omega) (Dec.dval_itoa x.val.num), trivial⟩
theorem p_rOne16 {x : Tr} (hx : Arg x) : Puk 57 [stA [100, 101, 110, 111, 109, 105, 110, 97, 116, 111, 114], trA x] (trA (Tr.ap 16 x nilT nilT)) :=
  pwalk (an := [.av (trA (.num x.val)), .no, .no, .no, .no, .no, .no, .no, .no, .no, .no, .no, .av (trA (.num ((x.val.den : Int) : Rat)))]) (ls := []) (ps := [Puk 101 [(obA x.ob)] (trA (Tr.num x.val)), Puk 35 [(stA (Tr.num x.val).ob.den), (stA [49])] (trA (Tr.num ↑↑x.val.den))]) Tryz.func57 (by kernel_rfl) (by kernel_rfl) ⟨p_rFix x, p_rRatI (q := (x.val.den : Int)) (a := (Tr.num x.val).ob.den) (by have := hx.d; show (Lib.itoa (x.val.den : Int)).length ≤ _; omega) (Dec.dval_itoa (x.val.den : Int)), trivial⟩
theorem p_rOne17 {x : Tr} (hx : Arg x) : Puk 57 [stA [102, 108, 111, 111, 114], trA x] (trA (Tr.ap 17 x nilT nilT)) :=
  pwalk (an := [.av (trA (.num x.val)), .no, .no, .no, .no, .no, .no, .no, .no, .no, .no, .no, .no, .av (.tup [stA (Lib.itoa (qd x.val.num x.val.den)), stA (Lib.itoa (rm x.val.num x.val.den))]), .av (trA (.num ((qd x.val.num x.val.den : Int) : Rat)))]) (ls := []) (ps := [Puk 101 [(obA x.ob)] (trA (Tr.num x.val)), Puk 106 [(stA (Tr.num x.val).ob.num), (stA (Tr.num x.val).ob.den)] (.tup [(stA (Lib.itoa (qd x.val.num ↑x.val.den))), (stA (Lib.itoa (rm x.val.num ↑x.val.den)))]), Puk 35 [(stA (Lib.itoa (qd x.val.num ↑x.val.den))), (stA [49])] (obA ((Tr.num ↑(qd x.val.num ↑x.val.den)).ob))]) Tryz.func57 (by kernel_rfl) (by kernel_rfl) ⟨p_rFix x, p_rFl hx, p_rRatI (a := Lib.itoa (qd x.val.num x.val.den)) (by have := qd_len hx; omega) (Dec.dval_itoa _), trivial⟩
theorem p_rOne18 {x : Tr} (_hx : Arg x) : Puk 57 [stA [115, 121, 109, 98, 111, 108, 45, 110, 97, 109, 101], trA x] (trA (Tr.ap 18 x nilT nilT)) :=
  pwalk (an := [.av (trA (.num x.val)), .no, .no, .no, .no, .no, .no, .no, .no, .no, .no, .no, .no, .no, .av (trA (.txt x.ob.sn))]) (ls := []) (ps := [Puk 101 [(obA x.ob)] (trA (Tr.num x.val)), Puk 26 [(stA x.ob.sn)] (trA (Tr.txt x.ob.sn))]) Tryz.func57 (by kernel_rfl) (by kernel_rfl) ⟨p_rFix x, p_rText _, trivial⟩
theorem p_rOne19 {x : Tr} (_hx : Arg x) : Puk 57 [stA [115, 121, 109, 98, 111, 108, 45, 112, 97, 99, 107, 97, 103, 101, 45, 110, 97, 109, 101], trA x] (trA (Tr.ap 19 x nilT nilT)) :=
  pwalk (an := [.av (trA (.num x.val)), .no, .no, .no, .no, .no, .no, .no, .no, .no, .no, .no, .no, .no, .no, .av (trA (.txt x.ob.sp))]) (ls := []) (ps := [Puk 101 [(obA x.ob)] (trA (Tr.num x.val)), Puk 26 [(stA x.ob.sp)] (trA (Tr.txt x.ob.sp))]) Tryz.func57 (by kernel_rfl) (by kernel_rfl) ⟨p_rFix x, p_rText _, trivial⟩
theorem p_rOne22 {x : Tr} (hx : Arg x) : Puk 57 [stA [115, 116, 114, 105, 110, 103, 45, 108, 101, 110, 103, 116, 104], trA x] (trA (Tr.ap 22 x nilT nilT)) :=
  pwalk (an := [.av (trA (.num x.val)), .no, .no, .no, .no, .no, .no, .no, .no, .no, .no, .no, .no, .no, .no, .no, .av (stA x.tx), .no, .av (trA (.num ((x.tx.length : Int) : Rat)))]) (ls := []) (ps := [Puk 101 [(obA x.ob)] (trA (Tr.num x.val)), Puk 107 [(obA x.ob)] (stA x.tx), Puk 27 [(inA (x.tx.length : Int))] (trA (Tr.num ↑↑x.tx.length))]) Tryz.func57 (by kernel_rfl) (by kernel_rfl) ⟨p_rFix x, p_rStr x, p_rInt (x.tx.length : Int) (by omega) (by have := hx.tx; omega), trivial⟩
end Go.Proofs.YtmkcnjfhdfanoaaGreatDoor
/- The primitives of the reference: car, cdr, byte-string and those of two arguments. -/
namespace Go.Proofs.YtmkcnjfhdfanoaaGreatDoor
open Go.RowKit

theorem octV_some {x : Tr} {n : Int} (h : x.octV = some n) : (smV x.ob.num).1 = n ∧ ocR x = IntKind.u8.wrap n ∧ 0 ≤ n ∧ n ≤ 255 := by
  unfold Tr.octV at h
  split at h
  · rename_i hc
    unfold ocR
    rw [if_pos hc]
    simp only [Bool.and_eq_true, decide_eq_true_eq] at hc
    cases h
    exact ⟨rfl, rfl, hc.1.2, hc.2⟩
  · cases h
theorem u8_n {n : Int} (h0 : 0 ≤ n) (h1 : n ≤ 255) : IntKind.u8.wrap n = ((UInt8.ofNat n.toNat).toNat : Int) := by
  have e : (UInt8.ofNat n.toNat).toNat = n.toNat := by
    rw [UInt8.toNat_ofNat']
    omega
  rw [e, show IntKind.u8.wrap n = n from by
    show (n % 256) = n
    omega]
  omega
theorem ap24_n {x : Tr} (h : x.octV = none) : Tr.ap 24 x nilT nilT = .txt [] := by
  show (match x.octV with | some n => Tr.txt [UInt8.ofNat n.toNat] | none => Tr.txt []) = _
  rw [h]
theorem ap24_s {x : Tr} {n : Int} (h : x.octV = some n) : Tr.ap 24 x nilT nilT = .txt [UInt8.ofNat n.toNat] := by
  show (match x.octV with | some n => Tr.txt [UInt8.ofNat n.toNat] | none => Tr.txt []) = _
  rw [h]
theorem p_rIsC (x : Tr) : Puk 102 [trA x] (boA x.isC) := by
  cases x with
  | num q => exact (p_rIsCons (Tr.num q).ob (Nat.zero_le _)).b (decide_eq_false fun h => absurd (show (1 : Int) = 4 from h.1) (by decide))
  | txt q => exact (p_rIsCons (Tr.txt q).ob (Nat.zero_le _)).b (decide_eq_false fun h => absurd (show (3 : Int) = 4 from h.1) (by decide))
  | sym p s => exact (p_rIsCons (Tr.sym p s).ob (Nat.zero_le _)).b (decide_eq_false fun h => absurd (show (2 : Int) = 4 from h.1) (by decide))
  | cons a d => exact (p_rIsCons (Tr.cons a d).ob (show (2 : Nat) ≤ _ by decide)).b (decide_eq_true ⟨rfl, rfl⟩)
theorem p_oOne24 {x : Tr} (hx : Arg x) : Puk 55 [stA [98, 121, 116, 101, 45, 115, 116, 114, 105, 110, 103], trA x] (trA (Tr.ap 24 x nilT nilT)) := by
  have hc := p_oCode hx.ok (by decide)
  cases ho : x.octV with
  | none =>
    rw [ap24_n ho]
    rw [ho] at hc
    exact pwalk (an := [.no, .no, .no, .no, .no, .no, .no, .no, .no, .no, .no, .no, .no, .no, .no, .av (.tup [.dt (.val (.int .u8 (IntKind.u8.wrap (smV x.ob.num).1))), boA false]), .av (trA (.txt []))]) (ls := []) (ps := [Puk 66 [(obA x.ob)] (.tup [(.dt (.val (Value.int .u8 (IntKind.u8.wrap (smV x.ob.num).fst)))), (boA false)]), Puk 47 [(stA [])] (trA (Tr.txt []))]) Tryz.func55 (by kernel_rfl) (by kernel_rfl) ⟨hc, p_oText [], trivial⟩
  | some n =>
    obtain ⟨h1, h3, h0, h2⟩ := octV_some ho
    rw [ap24_s ho]
    rw [ho, h1] at hc
    exact pwalk (an := [.no, .no, .no, .no, .no, .no, .no, .no, .no, .no, .no, .no, .no, .no, .no, .av (.tup [.dt (.val (.int .u8 (IntKind.u8.wrap n))), boA true]), .av (stA [UInt8.ofNat n.toNat]), .av (trA (.txt [UInt8.ofNat n.toNat]))]) (ls := []) (ps := [Puk 66 [(obA x.ob)] (.tup [(.dt (.val (Value.int .u8 (IntKind.u8.wrap n)))), (boA true)]), [[Dt.val (Value.int IntKind.u8 (IntKind.u8.wrap n))]] = [[Dt.val (Value.int IntKind.u8 ((UInt8.ofNat n.toNat).toNat : Int))]], Puk 47 [(stA [UInt8.ofNat n.toNat])] (trA (Tr.txt [UInt8.ofNat n.toNat]))]) Tryz.func55 (by kernel_rfl) (by kernel_rfl) ⟨hc, by rw [u8_n h0 h2], p_oText _, trivial⟩
theorem p_rOne24 {x : Tr} (hx : Arg x) : Puk 57 [stA [98, 121, 116, 101, 45, 115, 116, 114, 105, 110, 103], trA x] (trA (Tr.ap 24 x nilT nilT)) := by
  have hc := p_rOct hx.ok (by decide)
  cases ho : x.octV with
  | none =>
    rw [ap24_n ho]
    rw [ho] at hc
    exact pwalk (an := [.av (trA (.num x.val)), .no, .no, .no, .no, .no, .no, .no, .no, .no, .no, .no, .no, .no, .no, .no, .no, .av (.tup [.dt (.val (.int .u8 (ocR x))), boA false]), .av (trA (.txt []))]) (ls := []) (ps := [Puk 101 [(obA x.ob)] (trA (Tr.num x.val)), Puk 70 [(obA x.ob)] (.tup [(.dt (.val (Value.int .u8 (ocR x)))), (boA false)]), Puk 26 [(stA [])] (trA (Tr.txt []))]) Tryz.func57 (by kernel_rfl) (by kernel_rfl) ⟨p_rFix x, hc, p_rText [], trivial⟩
  | some n =>
    obtain ⟨h1, h3, h0, h2⟩ := octV_some ho
    rw [ap24_s ho]
    rw [ho, h3] at hc
    exact pwalk (an := [.av (trA (.num x.val)), .no, .no, .no, .no, .no, .no, .no, .no, .no, .no, .no, .no, .no, .no, .no, .no, .av (.tup [.dt (.val (.int .u8 (IntKind.u8.wrap n))), boA true]), .av (stA [UInt8.ofNat n.toNat]), .av (trA (.txt [UInt8.ofNat n.toNat]))]) (ls := []) (ps := [Puk 101 [(obA x.ob)] (trA (Tr.num x.val)), Puk 70 [(obA x.ob)] (.tup [(.dt (.val (Value.int .u8 (IntKind.u8.wrap n)))), (boA true)]), [[Dt.val (Value.int IntKind.u8 (IntKind.u8.wrap n))]] = [[Dt.val (Value.int IntKind.u8 ((UInt8.ofNat n.toNat).toNat : Int))]], Puk 26 [(stA [UInt8.ofNat n.toNat])] (trA (Tr.txt [UInt8.ofNat n.toNat]))]) Tryz.func57 (by kernel_rfl) (by kernel_rfl) ⟨p_rFix x, hc, by rw [u8_n h0 h2], p_rText _, trivial⟩
theorem p_rOne3 {x : Tr} (_ : Arg x) : Puk 57 [stA [99, 97, 114], trA x] (trA (Tr.ap 3 x nilT nilT)) := by
  cases x with
  | num q => exact pwalk (an := [.av (trA (.num (Tr.val (.num q)))), .no, .av (boA (Tr.isC (.num q))), .av (trA nilT)]) (ls := []) (ps := [Puk 101 [(trA (Tr.num q))] (obA ((Tr.num (Tr.num q).val).ob)), Puk 102 [(trA (Tr.num q))] (boA false), Puk 30 [] (obA nilT.ob)]) Tryz.func57 (by kernel_rfl) (by kernel_rfl) ⟨p_rFix _, p_rIsC _, p_rNil, trivial⟩
  | txt q => exact pwalk (an := [.av (trA (.num (Tr.val (.txt q)))), .no, .av (boA (Tr.isC (.txt q))), .av (trA nilT)]) (ls := []) (ps := [Puk 101 [(trA (Tr.txt q))] (obA ((Tr.num (Tr.txt q).val).ob)), Puk 102 [(trA (Tr.txt q))] (boA false), Puk 30 [] (obA nilT.ob)]) Tryz.func57 (by kernel_rfl) (by kernel_rfl) ⟨p_rFix _, p_rIsC _, p_rNil, trivial⟩
  | sym p s => exact pwalk (an := [.av (trA (.num (Tr.val (.sym p s)))), .no, .av (boA (Tr.isC (.sym p s))), .av (trA nilT)]) (ls := []) (ps := [Puk 101 [(trA (Tr.sym p s))] (obA ((Tr.num (Tr.sym p s).val).ob)), Puk 102 [(trA (Tr.sym p s))] (boA false), Puk 30 [] (obA nilT.ob)]) Tryz.func57 (by kernel_rfl) (by kernel_rfl) ⟨p_rFix _, p_rIsC _, p_rNil, trivial⟩
  | cons a d => exact pwalk (an := [.av (trA (.num (Tr.val (.cons a d)))), .no, .av (boA (Tr.isC (.cons a d))), .no, .av (pinO a.ob)]) (ls := []) (ps := [Puk 101 [(trA (a.cons d))] (obA ((Tr.num (a.cons d).val).ob)), Puk 102 [(trA (a.cons d))] (boA true), IxAt (List.map Ob.enc (a.cons d).ob.pair) 0 7 (encL a.ob)]) Tryz.func57 (by kernel_rfl) (by kernel_rfl) ⟨p_rFix _, p_rIsC _, ix_obj (l := [a.ob, d.ob]) (i := 0) rfl, trivial⟩
theorem p_rOne4 {x : Tr} (_ : Arg x) : Puk 57 [stA [99, 100, 114], trA x] (trA (Tr.ap 4 x nilT nilT)) := by
  cases x with
  | num q => exact pwalk (an := [.av (trA (.num (Tr.val (.num q)))), .no, .no, .av (boA (Tr.isC (.num q))), .av (trA nilT)]) (ls := []) (ps := [Puk 101 [(trA (Tr.num q))] (obA ((Tr.num (Tr.num q).val).ob)), Puk 102 [(trA (Tr.num q))] (boA false), Puk 30 [] (obA nilT.ob)]) Tryz.func57 (by kernel_rfl) (by kernel_rfl) ⟨p_rFix _, p_rIsC _, p_rNil, trivial⟩
  | txt q => exact pwalk (an := [.av (trA (.num (Tr.val (.txt q)))), .no, .no, .av (boA (Tr.isC (.txt q))), .av (trA nilT)]) (ls := []) (ps := [Puk 101 [(trA (Tr.txt q))] (obA ((Tr.num (Tr.txt q).val).ob)), Puk 102 [(trA (Tr.txt q))] (boA false), Puk 30 [] (obA nilT.ob)]) Tryz.func57 (by kernel_rfl) (by kernel_rfl) ⟨p_rFix _, p_rIsC _, p_rNil, trivial⟩
  | sym p s => exact pwalk (an := [.av (trA (.num (Tr.val (.sym p s)))), .no, .no, .av (boA (Tr.isC (.sym p s))), .av (trA nilT)]) (ls := []) (ps := [Puk 101 [(trA (Tr.sym p s))] (obA ((Tr.num (Tr.sym p s).val).ob)), Puk 102 [(trA (Tr.sym p s))] (boA false), Puk 30 [] (obA nilT.ob)]) Tryz.func57 (by kernel_rfl) (by kernel_rfl) ⟨p_rFix _, p_rIsC _, p_rNil, trivial⟩
  | cons a d => exact pwalk (an := [.av (trA (.num (Tr.val (.cons a d)))), .no, .no, .av (boA (Tr.isC (.cons a d))), .no, .av (pinO d.ob)]) (ls := []) (ps := [Puk 101 [(trA (a.cons d))] (obA ((Tr.num (a.cons d).val).ob)), Puk 102 [(trA (a.cons d))] (boA true), IxAt (List.map Ob.enc (a.cons d).ob.pair) 1 7 (encL d.ob)]) Tryz.func57 (by kernel_rfl) (by kernel_rfl) ⟨p_rFix _, p_rIsC _, ix_obj (l := [a.ob, d.ob]) (i := 1) rfl, trivial⟩
theorem p_rTwo1 {x y : Tr} (hx : Arg x) (_hy : Arg y) : Puk 58 [stA [101, 113, 117, 97, 108], trA x, trA y] (trA (Tr.ap 1 x y nilT)) := pwalk (an := [.no, .av (boA (decide (x = y))), .av (trA (truT (decide (x = y))))]) (ls := []) (ps := [Puk 22 [(obA x.ob), (obA y.ob)] (boA (decide (x = y))), Puk 103 [(boA (decide (x = y)))] (obA ((truT (decide (x = y))).ob))]) Tryz.func58 (by kernel_rfl) (by kernel_rfl) ⟨p_rEq y hx.ok (by decide), p_rTru _, trivial⟩
theorem p_rTwo2 {x y : Tr} (_hx : Arg x) (_hy : Arg y) : Puk 58 [stA [99, 111, 110, 115], trA x, trA y] (trA (Tr.ap 2 x y nilT)) := pwalk (an := [.no, .no, .av (trA (.cons x y))]) (ls := []) (ps := [Puk 77 [(obA x.ob), (obA y.ob)] (trA (x.cons y))]) Tryz.func58 (by kernel_rfl) (by kernel_rfl) ⟨p_rCons x.ob y.ob, trivial⟩
theorem p_rTwo10 {x y : Tr} (hx : Arg x) (hy : Arg y) : Puk 58 [stA [98, 105, 110, 97, 114, 121, 45, 43], trA x, trA y] (trA (Tr.ap 10 x y nilT)) := pwalk (an := [.no, .no, .no, .av (trA (.num (x.val + y.val)))]) (ls := []) (ps := [Puk 108 [(obA x.ob), (obA y.ob)] (obA ((Tr.num (x.val + y.val)).ob))]) Tryz.func58 (by kernel_rfl) (by kernel_rfl) ⟨p_rSum hx.ok hy.ok (by decide) (by decide), trivial⟩
theorem p_rTwo11 {x y : Tr} (hx : Arg x) (hy : Arg y) : Puk 58 [stA [98, 105, 110, 97, 114, 121, 45, 42], trA x, trA y] (trA (Tr.ap 11 x y nilT)) := pwalk (an := [.no, .no, .no, .no, .av (trA (.num (x.val * y.val)))]) (ls := []) (ps := [Puk 109 [(obA x.ob), (obA y.ob)] (obA ((Tr.num (x.val * y.val)).ob))]) Tryz.func58 (by kernel_rfl) (by kernel_rfl) ⟨p_rProd hx.ok hy.ok (by decide) (by decide), trivial⟩
theorem p_rTwo14 {x y : Tr} (hx : Arg x) (hy : Arg y) : Puk 58 [stA [60], trA x, trA y] (trA (Tr.ap 14 x y nilT)) := pwalk (an := [.no, .no, .no, .no, .no, .av (boA (decide (x.val < y.val))), .av (trA (truT (decide (x.val < y.val))))]) (ls := []) (ps := [Puk 110 [(obA x.ob), (obA y.ob)] (boA (decide (x.val < y.val))), Puk 103 [(boA (decide (x.val < y.val)))] (obA ((truT (decide (x.val < y.val))).ob))]) Tryz.func58 (by kernel_rfl) (by kernel_rfl) ⟨p_rLessN hx.ok hy.ok (by decide) (by decide), p_rTru _, trivial⟩
theorem p_rTwo21 {x y : Tr} (hx : Arg x) (hy : Arg y) : Puk 58 [stA [115, 116, 114, 105, 110, 103, 45, 97, 112, 112, 101, 110, 100], trA x, trA y] (trA (Tr.ap 21 x y nilT)) := pwalk (an := [.no, .no, .no, .no, .no, .no, .no, .av (stA x.tx), .av (stA y.tx), .av (stA (x.tx ++ y.tx)), .av (trA (.txt (x.tx ++ y.tx)))]) (ls := []) (ps := [Puk 107 [(obA x.ob)] (stA x.tx), Puk 107 [(obA y.ob)] (stA y.tx), Bn .add 9 (.tmp 64) (.tmp 66) (str x.tx) (str y.tx) (str (x.tx ++ y.tx)), Puk 26 [(stA (x.tx ++ y.tx))] (obA ((Tr.txt (x.tx ++ y.tx)).ob))]) Tryz.func58 (by kernel_rfl) (by kernel_rfl) ⟨p_rStr x, p_rStr y, bin_strs (a := x.tx) (b := y.tx) (by have := hx.tx; have := hy.tx; omega), p_rText _, trivial⟩
theorem p_rTwo20 {x y : Tr} (hx : Arg x) (hy : Arg y) : Puk 58 [stA [105, 110, 116, 101, 114, 110], trA x, trA y] (trA (Tr.ap 20 x y nilT)) := by
  have lx : x.tx.length ≤ 40000 := hx.tx
  have ly : y.tx.length ≤ 40000 := hy.tx
  have e : Tr.ap 20 x y nilT = if x.isT && y.isT && symOk ⟨y.tx, x.tx⟩ then .sym y.tx x.tx else nilT := rfl
  rw [e]
  cases hX : x.isT with
  | false => exact pwalk (an := [.no, .no, .no, .no, .no, .no, .av (stA y.tx), .av (stA x.tx), yT, .av (trA nilT)]) (ls := []) (ps := [Puk 107 [(obA y.ob)] (stA y.tx), Puk 107 [(obA x.ob)] (stA x.tx), Bn .neq 3 (.tmp 46) (.const (vi 3)) (vi x.ob.kind) (vi 3) bT, Puk 30 [] (obA nilT.ob)]) Tryz.func58 (by kernel_rfl) (by kernel_rfl) ⟨p_rStr y, p_rStr x, bin_ine (by rw [isT_k, hX]; rfl), p_rNil, trivial⟩
  | true =>
    cases hY : y.isT with
    | false => exact pwalk (an := [.no, .no, .no, .no, .no, .no, .av (stA y.tx), .av (stA x.tx), yF, yT, .av (trA nilT)]) (ls := []) (ps := [Puk 107 [(obA y.ob)] (stA y.tx), Puk 107 [(obA x.ob)] (stA x.tx), Bn .neq 3 (.tmp 46) (.const (vi 3)) (vi x.ob.kind) (vi 3) bF, Bn .neq 3 (.tmp 50) (.const (vi 3)) (vi y.ob.kind) (vi 3) bT, Puk 30 [] (obA nilT.ob)]) Tryz.func58 (by kernel_rfl) (by kernel_rfl) ⟨p_rStr y, p_rStr x, bin_ine (by rw [isT_k, hX]; rfl), bin_ine (by rw [isT_k, hY]; rfl), p_rNil, trivial⟩
    | true =>
      cases hS : symOk ⟨y.tx, x.tx⟩ with
      | false => exact pwalk (an := [.no, .no, .no, .no, .no, .no, .av (stA y.tx), .av (stA x.tx), yF, yF, yF, .av (trA nilT)]) (ls := []) (ps := [Puk 107 [(obA y.ob)] (stA y.tx), Puk 107 [(obA x.ob)] (stA x.tx), Bn .neq 3 (.tmp 46) (.const (vi 3)) (vi x.ob.kind) (vi 3) bF, Bn .neq 3 (.tmp 50) (.const (vi 3)) (vi y.ob.kind) (vi 3) bF, Puk 31 [(syA y.tx x.tx)] (boA false), Puk 30 [] (obA nilT.ob)]) Tryz.func58 (by kernel_rfl) (by kernel_rfl) ⟨p_rStr y, p_rStr x, bin_ine (by rw [isT_k, hX]; rfl), bin_ine (by rw [isT_k, hY]; rfl), (p_rSyV (p := y.tx) (s := x.tx) (by omega) (by omega)).b hS, p_rNil, trivial⟩
      | true => exact pwalk (an := [.no, .no, .no, .no, .no, .no, .av (stA y.tx), .av (stA x.tx), yF, yF, yT, .av (trA (.sym y.tx x.tx))]) (ls := []) (ps := [Puk 107 [(obA y.ob)] (stA y.tx), Puk 107 [(obA x.ob)] (stA x.tx), Bn .neq 3 (.tmp 46) (.const (vi 3)) (vi x.ob.kind) (vi 3) bF, Bn .neq 3 (.tmp 50) (.const (vi 3)) (vi y.ob.kind) (vi 3) bF, Puk 31 [(syA y.tx x.tx)] (boA true), Puk 32 [(syA y.tx x.tx)] (trA (Tr.sym y.tx x.tx))]) Tryz.func58 (by kernel_rfl) (by kernel_rfl) ⟨p_rStr y, p_rStr x, bin_ine (by rw [isT_k, hX]; rfl), bin_ine (by rw [isT_k, hY]; rfl), (p_rSyV (p := y.tx) (s := x.tx) (by omega) (by omega)).b hS, p_rSym _ _, trivial⟩
theorem ap23_n {x y : Tr} (h : x.ixV y = none) : Tr.ap 23 x y nilT = nilT := by
  show (match x.ixV y with | some n => Tr.num (((x.tx.getD n.toNat 0).toNat : Int) : Rat) | none => nilT) = _
  rw [h]
theorem ap23_s {x y : Tr} {n : Int} (h : x.ixV y = some n) : Tr.ap 23 x y nilT = .num (((x.tx.getD n.toNat 0).toNat : Int) : Rat) := by
  show (match x.ixV y with | some n => Tr.num (((x.tx.getD n.toNat 0).toNat : Int) : Rat) | none => nilT) = _
  rw [h]
theorem ixR_some {x i : Tr} {n : Int} (h : x.ixV i = some n) : ixR x i = n := by unfold ixR; rw [h]
theorem getD_ix {l : List UInt8} {n : Int} (h0 : 0 ≤ n) (h1 : n < l.length) : l[n.toNat]? = some (l.getD n.toNat 0) := by
  have h : n.toNat < l.length := by omega
  rw [List.getD_eq_getElem?_getD, List.getElem?_eq_getElem h]
  rfl
theorem u8_wrap (b : UInt8) : IntKind.i64.wrap (b.toNat : Int) = (b.toNat : Int) := by have := b.toNat_lt; rw [IntKind.wrap_i64]; omega
theorem p_rTwo23 {x y : Tr} (_hx : Arg x) (hy : Arg y) : Puk 58 [stA [115, 116, 114, 105, 110, 103, 45, 98, 121, 116, 101], trA x, trA y] (trA (Tr.ap 23 x y nilT)) := by
  have hi := p_rIx x hy.ok (by decide)
  cases ho : x.ixV y with
  | none =>
    rw [ap23_n ho]
    rw [ho] at hi
    exact pwalk (an := [.no, .no, .no, .no, .no, .no, .no, .no, .av (.tup [inA (ixR x y), boA false]), .av (trA nilT)]) (ls := []) (ps := [Puk 69 [(obA x.ob), (obA y.ob)] (.tup [(inA (ixR x y)), (boA false)]), Puk 30 [] (obA nilT.ob)]) Tryz.func58 (by kernel_rfl) (by kernel_rfl) ⟨hi, p_rNil, trivial⟩
  | some n =>
    obtain ⟨_, _, _, h0, h1⟩ := ixV_some ho
    rw [ap23_s ho]
    rw [ho, ixR_some ho] at hi
    generalize hb : x.tx.getD n.toNat 0 = b
    have hg := getD_ix h0 h1
    rw [hb] at hg
    have := b.toNat_lt
    exact pwalk (an := [.no, .no, .no, .no, .no, .no, .no, .no, .av (.tup [inA n, boA true]), .av (.dt (.val (.int .u8 b.toNat))), .av (inA b.toNat), .av (trA (.num ((b.toNat : Int) : Rat)))]) (ls := []) (ps := [Puk 69 [(obA x.ob), (obA y.ob)] (.tup [(inA n), (boA true)]), IxS ({ data := x.ob.text.toArray : ByteArray }) n (Value.int .u8 ↑b.toNat), (vi ↑b.toNat) = (vi (IntKind.i64.wrap ↑b.toNat)), Puk 27 [(inA ↑b.toNat)] (trA (Tr.num ↑↑b.toNat))]) Tryz.func58 (by kernel_rfl) (by kernel_rfl) ⟨hi, ⟨b, h0, by rw [bytes_get]; exact hg, rfl⟩, by rw [u8_wrap], p_rInt _ (by omega) (by omega), trivial⟩
end Go.Proofs.YtmkcnjfhdfanoaaGreatDoor
