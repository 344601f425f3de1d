/- Which terms are valid: the reference's formed and Valid, of terms and clauses. -/
import Derived.Test.YtlbbfmijemnjdaaGreatDoorOM
namespace Go.Proofs.YtlbbfmijemnjdaaGreatDoor
open Go.RowKit
open Te

theorem zOb_r {o : Ob} (h : o.Wf) : Puk 85 [obA o, obA zOb] (boA (decide (o = zOb))) := p_rEqO h zOb
theorem p_Variable (p n : List UInt8) (hp : p.length ≤ 9223372036854775807) (hn : n.length ≤ 9223372036854775807) : Puk 86 [syA p n] (boA (varB p n)) := by
  have hs := p_ref4V p n hp hn
  unfold varB
  cases h1 : symOk ⟨p, n⟩ with
  | false =>
    rw [h1] at hs
    exact pwalk (an := [yF]) (ls := []) (ps := [Puk 88 [(syA p n)] (boA false)]) Tryz.func86 (by kernel_rfl) (by kernel_rfl) ⟨hs, trivial⟩
  | true =>
    rw [h1] at hs
    cases h2 : decide (p = lispB) && decide (n = nilB) with
    | true => exact pwalk (an := [yT, .av (syA lispB nilB), yF]) (ls := []) (ps := [Puk 88 [(syA p n)] (boA true), Puk 36 [(stA [110, 105, 108])] (syA lispB nilB), Bn .neq 29 (.tmp 6) (.tmp 7) (Value.agg #[str p, str n]) (Value.agg #[str lispB, str nilB]) bF]) Tryz.func86 (by kernel_rfl) (by kernel_rfl) ⟨hs, p_lisp _, bin_syne h2, trivial⟩
    | false =>
      cases h3 : decide (p = lispB) && decide (n = [116]) with
      | true => exact pwalk (an := [yT, .av (syA lispB nilB), yT, .av (syA lispB [116]), yF]) (ls := []) (ps := [Puk 88 [(syA p n)] (boA true), Puk 36 [(stA [110, 105, 108])] (syA lispB nilB), Bn .neq 29 (.tmp 6) (.tmp 7) (Value.agg #[str p, str n]) (Value.agg #[str lispB, str nilB]) bT, Puk 36 [(stA [116])] (syA lispB [116]), Bn .neq 29 (.tmp 11) (.tmp 12) (Value.agg #[str p, str n]) (Value.agg #[str lispB, str [116]]) bF]) Tryz.func86 (by kernel_rfl) (by kernel_rfl) ⟨hs, p_lisp _, bin_syne h2, p_lisp _, bin_syne h3, trivial⟩
      | false => exact pwalk (an := [yT, .av (syA lispB nilB), yT, .av (syA lispB [116]), yT]) (ls := []) (ps := [Puk 88 [(syA p n)] (boA true), Puk 36 [(stA [110, 105, 108])] (syA lispB nilB), Bn .neq 29 (.tmp 6) (.tmp 7) (Value.agg #[str p, str n]) (Value.agg #[str lispB, str nilB]) bT, Puk 36 [(stA [116])] (syA lispB [116]), Bn .neq 29 (.tmp 11) (.tmp 12) (Value.agg #[str p, str n]) (Value.agg #[str lispB, str [116]]) bT]) Tryz.func86 (by kernel_rfl) (by kernel_rfl) ⟨hs, p_lisp _, bin_syne h2, p_lisp _, bin_syne h3, trivial⟩
abbrev frS (t : Te) (i : Int) : AS := ⟨stt 72 [(1, .ptr 0 0), (4, inA i)], [some (.cells ((encT t).map .dt))]⟩
abbrev frR (t : Te) (b : Bool) : AS := ⟨stt 72 [(2, boA b)], [some (.cells ((encT t).map .dt))]⟩
abbrev frN (t : Te) : AS := ⟨stt 72 [], [some (.cells ((encT t).map .dt))]⟩
noncomputable abbrev frB : Code := subC (bodyOf Tryz.f56) [1,1,0,1,0,1,1,1,1,1,0,1,0,1,0,0]
theorem frB1 {t x : Te} {i : Nat} (hx : t.args[i]? = some x) (hl : t.args.length ≤ 9223372036854775807) (h : Puk 56 [teA x] (boA true)) : Tri EX frB (frS t i) .nxt (frS t ((i + 1 : Nat) : Int)) :=
  twalk (c := subC (bodyOf Tryz.f56) [1,1,0,1,0,1,1,1,1,1,0,1,0,1,0,0]) (s := frS t i) (an := [.av (inA t.args.length), yT, .av (.pin ((encT x).map .dt)), yT, .av (inA ((i + 1 : Nat) : Int))]) (ls := []) (ft := [1,4]) (nb := 1) (e := .nxt) (s' := frS t ((i + 1 : Nat) : Int)) (ps := [(vi ↑t.args.length) = (vi (↑(List.map Te.enc t.args).length)), Bn .lss 3 (.tmp 58) (.tmp 61) (vi ↑i) (vi ↑t.args.length) bT, IxAt (List.map Te.enc t.args) ↑i 11 (encT x), Puk 56 [(teA x)] (boA true), Bn .add 3 (.tmp 63) (.const (vi 1)) (vi ↑i) (vi 1) (vi (↑(i + 1)))]) (by kernel_rfl)
    ⟨lenEncT _, bin_ilt (decide_eq_true (by have := (List.getElem?_eq_some_iff.1 hx).1; omega)), ix_te hx, h, bin_iadd (by omega) (by omega) (by have := (List.getElem?_eq_some_iff.1 hx).1; omega), trivial⟩
theorem frB2 {t : Te} {i : Nat} (hi : i = t.args.length) : Tri EX frB (frS t i) (.out 1) (frN t) :=
  twalk (c := subC (bodyOf Tryz.f56) [1,1,0,1,0,1,1,1,1,1,0,1,0,1,0,0]) (s := frS t i) (an := [.av (inA t.args.length), yF]) (ls := []) (ft := []) (nb := 1) (e := .out 1) (s' := frN t) (ps := [(vi ↑t.args.length) = (vi (↑(List.map Te.enc t.args).length)), Bn .lss 3 (.tmp 58) (.tmp 61) (vi ↑i) (vi ↑t.args.length) bF]) (by kernel_rfl)
    ⟨lenEncT _, bin_ilt (decide_eq_false (by omega)), trivial⟩
theorem frB3 {t x : Te} {i : Nat} (hx : t.args[i]? = some x) (h : Puk 56 [teA x] (boA false)) : Tri EX frB (frS t i) .ret (frR t false) :=
  twalk (c := subC (bodyOf Tryz.f56) [1,1,0,1,0,1,1,1,1,1,0,1,0,1,0,0]) (s := frS t i) (an := [.av (inA t.args.length), yT, .av (.pin ((encT x).map .dt)), yF]) (ls := []) (ft := [2]) (nb := 1) (e := .ret) (s' := frR t false) (ps := [(vi ↑t.args.length) = (vi (↑(List.map Te.enc t.args).length)), Bn .lss 3 (.tmp 58) (.tmp 61) (vi ↑i) (vi ↑t.args.length) bT, IxAt (List.map Te.enc t.args) ↑i 11 (encT x), Puk 56 [(teA x)] (boA false)]) (by kernel_rfl)
    ⟨lenEncT _, bin_ilt (decide_eq_true (by have := (List.getElem?_eq_some_iff.1 hx).1; omega)), ix_te hx, h, trivial⟩
theorem fr_loop {t : Te} (hl : t.args.length ≤ 9223372036854775807) (h : ∀ x ∈ t.args, Puk 56 [teA x] (boA (frm x))) : ∀ (s : List Te) (i : Nat), t.args.drop i = s → i ≤ t.args.length → (frmL s = true → Lps EX frB (frS t i) (.out 1) (frN t)) ∧ (frmL s = false → Lps EX frB (frS t i) .ret (frR t false)) := by
  intro s
  induction s with
  | nil =>
    intro i hd hi
    have e1 := congrArg List.length hd
    rw [List.length_drop, List.length_nil] at e1
    rw [frmL]
    exact ⟨fun _ => .stop (frB2 (by omega)) (fun h => by cases h), fun h => by cases h⟩
  | cons x s ih =>
    intro i hd hi
    have hx : t.args[i]? = some x := by rw [← List.head?_drop, hd]; rfl
    have hlt := (List.getElem?_eq_some_iff.1 hx).1
    have hd2 : t.args.drop (i + 1) = s := by rw [← List.drop_drop, hd]; rfl
    obtain ⟨k1, k2⟩ := ih (i + 1) hd2 (by omega)
    have hc := h x (List.mem_of_getElem? hx)
    rw [frmL]
    cases b : frm x with
    | false =>
      rw [b] at hc
      exact ⟨fun e => by simp at e, fun _ => .stop (frB3 hx hc) (fun h => by cases h)⟩
    | true =>
      rw [b] at hc
      exact ⟨fun e => .more (frB1 hx hl hc) (k1 (by simpa using e)), fun e => .more (frB1 hx hl hc) (k2 (by simpa using e))⟩
theorem p_rFormed : ∀ (N : Nat) (t : Te), t.size ≤ N → t.Bd → Puk 56 [teA t] (boA (frm t)) := by
  intro N
  induction N with
  | zero => intro t h; have := t.size_pos; omega
  | succ N ih =>
    intro t hN hb
    obtain ⟨hv, hs, hp, hn, hl⟩ := hb.parts
    rw [frm_eq]
    have h2 := zOb_r hv
    by_cases k1 : t.kind = 1
    · rw [if_pos k1]
      have h1 := p_Variable t.np t.nn hp hn
      cases b2 : decide (t.val = zOb) with
      | false =>
        rw [b2] at h2
        rw [Bool.and_false, Bool.false_and]
        exact pwalk (an := [yF, yT]) (ls := []) (ps := [Puk 85 [(obA t.val), (.agg [(inA 0), (stA []), (stA []), (stA []), (stA []), (stA []), (.dt (.row []))])] (boA false), Bn .eql 3 (.tmp 10) (.const (vi 1)) (vi t.kind) (vi 1) bT]) Tryz.func56 (by kernel_rfl) (by kernel_rfl) ⟨h2, bin_ieq (yesD k1), trivial⟩
      | true =>
        rw [b2] at h2
        cases b1 : varB t.np t.nn with
        | false =>
          rw [b1] at h1
          exact pwalk (an := [yT, yT, yF]) (ls := []) (ps := [Puk 85 [(obA t.val), (.agg [(inA 0), (stA []), (stA []), (stA []), (stA []), (stA []), (.dt (.row []))])] (boA true), Bn .eql 3 (.tmp 10) (.const (vi 1)) (vi t.kind) (vi 1) bT, Puk 86 [(syA t.np t.nn)] (boA false)]) Tryz.func56 (by kernel_rfl) (by kernel_rfl) ⟨h2, bin_ieq (yesD k1), h1, trivial⟩
        | true =>
          rw [b1] at h1
          exact pwalk (an := [yT, yT, yT, .av (inA t.args.length), .av (boA (decide (t.args.length = 0)))]) (ls := []) (ps := [Puk 85 [(obA t.val), (.agg [(inA 0), (stA []), (stA []), (stA []), (stA []), (stA []), (.dt (.row []))])] (boA true), Bn .eql 3 (.tmp 10) (.const (vi 1)) (vi t.kind) (vi 1) bT, Puk 86 [(syA t.np t.nn)] (boA true), (vi ↑t.args.length) = (vi (↑(List.map Te.enc t.args).length)), Bn .eql 3 (.tmp 22) (.const (vi 0)) (vi ↑t.args.length) (vi 0) (Value.bool (decide (t.args.length = 0)))]) Tryz.func56 (by kernel_rfl) (by kernel_rfl) ⟨h2, bin_ieq (yesD k1), h1, lenEncT _, bin_ieq (by rw [decide_eq_decide]; omega), trivial⟩
    rw [if_neg k1]
    by_cases k2 : t.kind = 2
    · rw [if_pos k2]
      have h3 := p_rValidO hv hs
      cases b1 : decide (t.np = []) && decide (t.nn = []) with
      | false => exact pwalk (an := [.av (boA (decide (t.val = zOb))), yF, yT, yF]) (ls := []) (ps := [Puk 85 [(obA t.val), (.agg [(inA 0), (stA []), (stA []), (stA []), (stA []), (stA []), (.dt (.row []))])] (boA (decide (t.val = zOb))), Bn .eql 3 (.tmp 10) (.const (vi 1)) (vi t.kind) (vi 1) bF, Bn .eql 3 (.tmp 10) (.const (vi 2)) (vi t.kind) (vi 2) bT, Bn .eql 29 (.tmp 28) (.tmp 29) (Value.agg #[str t.np, str t.nn]) (Value.agg #[Value.string { data := #[] : ByteArray }, Value.string { data := #[] : ByteArray }]) bF]) Tryz.func56 (by kernel_rfl) (by kernel_rfl) ⟨h2, bin_ieq (noD k1), bin_ieq (yesD k2), bin_syeq b1, trivial⟩
      | true =>
        cases b2 : t.val.validB with
        | false =>
          rw [b2] at h3
          exact pwalk (an := [.av (boA (decide (t.val = zOb))), yF, yT, yT, yF]) (ls := []) (ps := [Puk 85 [(obA t.val), (.agg [(inA 0), (stA []), (stA []), (stA []), (stA []), (stA []), (.dt (.row []))])] (boA (decide (t.val = zOb))), Bn .eql 3 (.tmp 10) (.const (vi 1)) (vi t.kind) (vi 1) bF, Bn .eql 3 (.tmp 10) (.const (vi 2)) (vi t.kind) (vi 2) bT, Bn .eql 29 (.tmp 28) (.tmp 29) (Value.agg #[str t.np, str t.nn]) (Value.agg #[Value.string { data := #[] : ByteArray }, Value.string { data := #[] : ByteArray }]) bT, Puk 87 [(obA t.val)] (boA false)]) Tryz.func56 (by kernel_rfl) (by kernel_rfl) ⟨h2, bin_ieq (noD k1), bin_ieq (yesD k2), bin_syeq b1, h3, trivial⟩
        | true =>
          rw [b2] at h3
          exact pwalk (an := [.av (boA (decide (t.val = zOb))), yF, yT, yT, yT, .av (inA t.args.length), .av (boA (decide (t.args.length = 0)))]) (ls := []) (ps := [Puk 85 [(obA t.val), (.agg [(inA 0), (stA []), (stA []), (stA []), (stA []), (stA []), (.dt (.row []))])] (boA (decide (t.val = zOb))), Bn .eql 3 (.tmp 10) (.const (vi 1)) (vi t.kind) (vi 1) bF, Bn .eql 3 (.tmp 10) (.const (vi 2)) (vi t.kind) (vi 2) bT, Bn .eql 29 (.tmp 28) (.tmp 29) (Value.agg #[str t.np, str t.nn]) (Value.agg #[Value.string { data := #[] : ByteArray }, Value.string { data := #[] : ByteArray }]) bT, Puk 87 [(obA t.val)] (boA true), (vi ↑t.args.length) = (vi (↑(List.map Te.enc t.args).length)), Bn .eql 3 (.tmp 39) (.const (vi 0)) (vi ↑t.args.length) (vi 0) (Value.bool (decide (t.args.length = 0)))]) Tryz.func56 (by kernel_rfl) (by kernel_rfl) ⟨h2, bin_ieq (noD k1), bin_ieq (yesD k2), bin_syeq b1, h3, lenEncT _, bin_ieq (by rw [decide_eq_decide]; omega), trivial⟩
    rw [if_neg k2]
    by_cases k3 : t.kind = 3
    · rw [if_pos k3]
      have h1 := p_ref4V t.np t.nn hp hn
      cases b2 : decide (t.val = zOb) with
      | false =>
        rw [b2] at h2
        rw [Bool.and_false, Bool.false_and, Bool.false_and]
        exact pwalk (an := [yF, yF, yF, yT]) (ls := []) (ps := [Puk 85 [(obA t.val), (.agg [(inA 0), (stA []), (stA []), (stA []), (stA []), (stA []), (.dt (.row []))])] (boA false), Bn .eql 3 (.tmp 10) (.const (vi 1)) (vi t.kind) (vi 1) bF, Bn .eql 3 (.tmp 10) (.const (vi 2)) (vi t.kind) (vi 2) bF, Bn .eql 3 (.tmp 10) (.const (vi 3)) (vi t.kind) (vi 3) bT]) Tryz.func56 (by kernel_rfl) (by kernel_rfl) ⟨h2, bin_ieq (noD k1), bin_ieq (noD k2), bin_ieq (yesD k3), trivial⟩
      | true =>
        rw [b2] at h2
        cases b1 : symOk ⟨t.np, t.nn⟩ with
        | false =>
          rw [b1] at h1
          exact pwalk (an := [yT, yF, yF, yT, yF]) (ls := []) (ps := [Puk 85 [(obA t.val), (.agg [(inA 0), (stA []), (stA []), (stA []), (stA []), (stA []), (.dt (.row []))])] (boA true), Bn .eql 3 (.tmp 10) (.const (vi 1)) (vi t.kind) (vi 1) bF, Bn .eql 3 (.tmp 10) (.const (vi 2)) (vi t.kind) (vi 2) bF, Bn .eql 3 (.tmp 10) (.const (vi 3)) (vi t.kind) (vi 3) bT, Puk 88 [(syA t.np t.nn)] (boA false)]) Tryz.func56 (by kernel_rfl) (by kernel_rfl) ⟨h2, bin_ieq (noD k1), bin_ieq (noD k2), bin_ieq (yesD k3), h1, trivial⟩
        | true =>
          rw [b1] at h1
          cases b3 : decide (t.args.length ≤ 8) with
          | false =>
            have e := of_decide_eq_false b3
            exact pwalk (an := [yT, yF, yF, yT, yT, .av (inA t.args.length), yT]) (ls := []) (ps := [Puk 85 [(obA t.val), (.agg [(inA 0), (stA []), (stA []), (stA []), (stA []), (stA []), (.dt (.row []))])] (boA true), Bn .eql 3 (.tmp 10) (.const (vi 1)) (vi t.kind) (vi 1) bF, Bn .eql 3 (.tmp 10) (.const (vi 2)) (vi t.kind) (vi 2) bF, Bn .eql 3 (.tmp 10) (.const (vi 3)) (vi t.kind) (vi 3) bT, Puk 88 [(syA t.np t.nn)] (boA true), (vi ↑t.args.length) = (vi (↑(List.map Te.enc t.args).length)), Bn .gtr 3 (.tmp 55) (.const (vi 8)) (vi ↑t.args.length) (vi 8) bT]) Tryz.func56 (by kernel_rfl) (by kernel_rfl) ⟨h2, bin_ieq (noD k1), bin_ieq (noD k2), bin_ieq (yesD k3), h1, lenEncT _, bin_igt (decide_eq_true (by omega)), trivial⟩
          | true =>
            have e := of_decide_eq_true b3
            obtain ⟨l1, l2⟩ := fr_loop hl (fun x hx => ih x (by have := Te.size_args hx; omega) (hb.kids hx)) t.args 0 rfl (Nat.zero_le _)
            cases b4 : frmL t.args with
            | false =>
              have ht := (l2 b4).tri
              exact pwalk (an := [yT, yF, yF, yT, yT, .av (inA t.args.length), yF]) (ls := [.inv [1,4] 1 (.ret) (frR t false)]) (ps := [Puk 85 [(obA t.val), (.agg [(inA 0), (stA []), (stA []), (stA []), (stA []), (stA []), (.dt (.row []))])] (boA true), Bn .eql 3 (.tmp 10) (.const (vi 1)) (vi t.kind) (vi 1) bF, Bn .eql 3 (.tmp 10) (.const (vi 2)) (vi t.kind) (vi 2) bF, Bn .eql 3 (.tmp 10) (.const (vi 3)) (vi t.kind) (vi 3) bT, Puk 88 [(syA t.np t.nn)] (boA true), (vi ↑t.args.length) = (vi (↑(List.map Te.enc t.args).length)), Bn .gtr 3 (.tmp 55) (.const (vi 8)) (vi ↑t.args.length) (vi 8) bF, Tri EX (.loop (subC (bodyOf Tryz.f56) [1,1,0,1,0,1,1,1,1,1,0,1,0,1,0,0])) (frS t 0) (.ret) (frR t false)]) Tryz.func56 (by kernel_rfl) (by kernel_rfl) ⟨h2, bin_ieq (noD k1), bin_ieq (noD k2), bin_ieq (yesD k3), h1, lenEncT _, bin_igt (decide_eq_false (by omega)), ht, trivial⟩
            | true =>
              have ht := (l1 b4).tri
              exact pwalk (an := [yT, yF, yF, yT, yT, .av (inA t.args.length), yF]) (ls := [.inv [1,4] 1 (.out 1) (frN t)]) (ps := [Puk 85 [(obA t.val), (.agg [(inA 0), (stA []), (stA []), (stA []), (stA []), (stA []), (.dt (.row []))])] (boA true), Bn .eql 3 (.tmp 10) (.const (vi 1)) (vi t.kind) (vi 1) bF, Bn .eql 3 (.tmp 10) (.const (vi 2)) (vi t.kind) (vi 2) bF, Bn .eql 3 (.tmp 10) (.const (vi 3)) (vi t.kind) (vi 3) bT, Puk 88 [(syA t.np t.nn)] (boA true), (vi ↑t.args.length) = (vi (↑(List.map Te.enc t.args).length)), Bn .gtr 3 (.tmp 55) (.const (vi 8)) (vi ↑t.args.length) (vi 8) bF, Tri EX (.loop (subC (bodyOf Tryz.f56) [1,1,0,1,0,1,1,1,1,1,0,1,0,1,0,0])) (frS t 0) (.out 1) (frN t)]) Tryz.func56 (by kernel_rfl) (by kernel_rfl) ⟨h2, bin_ieq (noD k1), bin_ieq (noD k2), bin_ieq (yesD k3), h1, lenEncT _, bin_igt (decide_eq_false (by omega)), ht, trivial⟩
    · rw [if_neg k3]
      exact pwalk (an := [.av (boA (decide (t.val = zOb))), yF, yF, yF]) (ls := []) (ps := [Puk 85 [(obA t.val), (.agg [(inA 0), (stA []), (stA []), (stA []), (stA []), (stA []), (.dt (.row []))])] (boA (decide (t.val = zOb))), Bn .eql 3 (.tmp 10) (.const (vi 1)) (vi t.kind) (vi 1) bF, Bn .eql 3 (.tmp 10) (.const (vi 2)) (vi t.kind) (vi 2) bF, Bn .eql 3 (.tmp 10) (.const (vi 3)) (vi t.kind) (vi 3) bF]) Tryz.func56 (by kernel_rfl) (by kernel_rfl) ⟨h2, bin_ieq (noD k1), bin_ieq (noD k2), bin_ieq (noD k3), trivial⟩
theorem p_rValidT {t : Te} (hb : t.Bd) : Puk 29 [teA t] (boA t.valid) := by
  have h1 := p_rNodes hb
  have h2 := p_rDepth hb
  have h3 := p_rFormed _ t (Nat.le_refl _) hb
  unfold Te.valid
  cases b1 : decide (t.nods ≤ 3000) with
  | false =>
    have e := of_decide_eq_false b1
    exact pwalk (an := [.av (inA ((min t.nods 3001 : Nat) : Int)), yF]) (ls := []) (ps := [Puk 7 [(teA t)] (inA (↑(min t.nods 3001))), Bn .leq 3 (.tmp 4) (.const (vi 3000)) (vi (↑(min t.nods 3001))) (vi 3000) bF]) Tryz.func29 (by kernel_rfl) (by kernel_rfl) ⟨h1, bin_ile (decide_eq_false (by omega)), trivial⟩
  | true =>
    have e := of_decide_eq_true b1
    cases b2 : decide (t.dep ≤ 200) with
    | false =>
      have e2 := of_decide_eq_false b2
      exact pwalk (an := [.av (inA ((min t.nods 3001 : Nat) : Int)), yT, .av (inA ((min t.dep 201 : Nat) : Int)), yF]) (ls := []) (ps := [Puk 7 [(teA t)] (inA (↑(min t.nods 3001))), Bn .leq 3 (.tmp 4) (.const (vi 3000)) (vi (↑(min t.nods 3001))) (vi 3000) bT, Puk 8 [(teA t)] (inA (↑(min t.dep 201))), Bn .leq 3 (.tmp 8) (.const (vi 200)) (vi (↑(min t.dep 201))) (vi 200) bF]) Tryz.func29 (by kernel_rfl) (by kernel_rfl) ⟨h1, bin_ile (decide_eq_true (by omega)), h2, bin_ile (decide_eq_false (by omega)), trivial⟩
    | true =>
      have e2 := of_decide_eq_true b2
      exact pwalk (an := [.av (inA ((min t.nods 3001 : Nat) : Int)), yT, .av (inA ((min t.dep 201 : Nat) : Int)), yT, .av (boA (frm t))]) (ls := []) (ps := [Puk 7 [(teA t)] (inA (↑(min t.nods 3001))), Bn .leq 3 (.tmp 4) (.const (vi 3000)) (vi (↑(min t.nods 3001))) (vi 3000) bT, Puk 8 [(teA t)] (inA (↑(min t.dep 201))), Bn .leq 3 (.tmp 8) (.const (vi 200)) (vi (↑(min t.dep 201))) (vi 200) bT, Puk 56 [(teA t)] (boA t.frm)]) Tryz.func29 (by kernel_rfl) (by kernel_rfl) ⟨h1, bin_ile (decide_eq_true (by omega)), h2, bin_ile (decide_eq_true (by omega)), h3, trivial⟩
/- clauses -/
abbrev rvS (c : List Te) (i : Int) : AS := ⟨stt 29 [(0, tesA c), (3, inA i)], []⟩
abbrev rvR (b : Bool) : AS := ⟨stt 29 [(2, boA b)], []⟩
abbrev rvN : AS := ⟨stt 29 [], []⟩
noncomputable abbrev rvB : Code := subC (bodyOf Tryz.f11) [1, 1, 0, 1, 0, 0]
abbrev rcontF : FuncId := 30
theorem rvB1 {c : List Te} {x : Te} {i : Nat} (hx : c[i]? = some x) (hl : c.length ≤ 60) (h : Puk 29 [teA x] (boA true)) (h2 : Puk rcontF [tesA (c.take i), teA x] (boA false)) : Tri EX rvB (rvS c i) .nxt (rvS c ((i + 1 : Nat) : Int)) :=
  twalk (c := subC (bodyOf Tryz.f11) [1,1,0,1,0,0]) (s := rvS c i) (an := [.av (inA c.length), yT, .av (.pin ((encT x).map .dt)), yT, .av (tesA (c.take i)), .av (.pin ((encT x).map .dt)), yF, .av (inA ((i + 1 : Nat) : Int))]) (ls := []) (ft := [0,3]) (nb := 0) (e := .nxt) (s' := rvS c ((i + 1 : Nat) : Int)) (ps := [(vi ↑c.length) = (vi (↑(List.map Te.enc c).length)), Bn .lss 3 (.tmp 7) (.tmp 9) (vi ↑i) (vi ↑c.length) bT, IxAt (List.map Te.enc c) ↑i 11 (encT x), Puk 29 [(teA x)] (boA true), SlcOK (List.map Te.enc c) 11 (none.getD 0) ((some ↑i).getD ↑(List.map Te.enc c).length) (List.map Te.enc (List.take i c)), (none : Option Int) = none ∨ (none : Option Int) = some ↑i, IxAt (List.map Te.enc c) ↑i 11 (encT x), Puk 30 [(.dt (.row (List.map Te.enc (List.take i c)))), (teA x)] (boA false), Bn .add 3 (.tmp 11) (.const (vi 1)) (vi ↑i) (vi 1) (vi (↑(i + 1)))]) (by kernel_rfl)
    ⟨lenEncT _, bin_ilt (decide_eq_true (by have := (List.getElem?_eq_some_iff.1 hx).1; omega)), ix_te hx, h, slc_te (by have := (List.getElem?_eq_some_iff.1 hx).1; omega), .inl rfl, ix_te hx, h2, bin_iadd (by omega) (by omega) (by have := (List.getElem?_eq_some_iff.1 hx).1; omega), trivial⟩
theorem rvB2 {c : List Te} {i : Nat} (hi : i = c.length) : Tri EX rvB (rvS c i) (.out 0) rvN :=
  twalk (c := subC (bodyOf Tryz.f11) [1,1,0,1,0,0]) (s := rvS c i) (an := [.av (inA c.length), yF]) (ls := []) (ft := []) (nb := 0) (e := .out 0) (s' := rvN) (ps := [(vi ↑c.length) = (vi (↑(List.map Te.enc c).length)), Bn .lss 3 (.tmp 7) (.tmp 9) (vi ↑i) (vi ↑c.length) bF]) (by kernel_rfl)
    ⟨lenEncT _, bin_ilt (decide_eq_false (by omega)), trivial⟩
theorem rvB3 {c : List Te} {x : Te} {i : Nat} (hx : c[i]? = some x) (h : Puk 29 [teA x] (boA false)) : Tri EX rvB (rvS c i) .ret (rvR false) :=
  twalk (c := subC (bodyOf Tryz.f11) [1,1,0,1,0,0]) (s := rvS c i) (an := [.av (inA c.length), yT, .av (.pin ((encT x).map .dt)), yF]) (ls := []) (ft := [2]) (nb := 0) (e := .ret) (s' := rvR false) (ps := [(vi ↑c.length) = (vi (↑(List.map Te.enc c).length)), Bn .lss 3 (.tmp 7) (.tmp 9) (vi ↑i) (vi ↑c.length) bT, IxAt (List.map Te.enc c) ↑i 11 (encT x), Puk 29 [(teA x)] (boA false)]) (by kernel_rfl)
    ⟨lenEncT _, bin_ilt (decide_eq_true (by have := (List.getElem?_eq_some_iff.1 hx).1; omega)), ix_te hx, h, trivial⟩
theorem rvB4 {c : List Te} {x : Te} {i : Nat} (hx : c[i]? = some x) (h : Puk 29 [teA x] (boA true)) (h2 : Puk rcontF [tesA (c.take i), teA x] (boA true)) : Tri EX rvB (rvS c i) .ret (rvR false) :=
  twalk (c := subC (bodyOf Tryz.f11) [1,1,0,1,0,0]) (s := rvS c i) (an := [.av (inA c.length), yT, .av (.pin ((encT x).map .dt)), yT, .av (tesA (c.take i)), .av (.pin ((encT x).map .dt)), yT]) (ls := []) (ft := [2]) (nb := 0) (e := .ret) (s' := rvR false) (ps := [(vi ↑c.length) = (vi (↑(List.map Te.enc c).length)), Bn .lss 3 (.tmp 7) (.tmp 9) (vi ↑i) (vi ↑c.length) bT, IxAt (List.map Te.enc c) ↑i 11 (encT x), Puk 29 [(teA x)] (boA true), SlcOK (List.map Te.enc c) 11 (none.getD 0) ((some ↑i).getD ↑(List.map Te.enc c).length) (List.map Te.enc (List.take i c)), (none : Option Int) = none ∨ (none : Option Int) = some ↑i, IxAt (List.map Te.enc c) ↑i 11 (encT x), Puk 30 [(.dt (.row (List.map Te.enc (List.take i c)))), (teA x)] (boA true)]) (by kernel_rfl)
    ⟨lenEncT _, bin_ilt (decide_eq_true (by have := (List.getElem?_eq_some_iff.1 hx).1; omega)), ix_te hx, h, slc_te (by have := (List.getElem?_eq_some_iff.1 hx).1; omega), .inl rfl, ix_te hx, h2, trivial⟩
theorem rv_loop {c : List Te} (hl : c.length ≤ 60) (hb : ∀ x ∈ c, x.Bd) : ∀ (s : List Te) (i : Nat), c.drop i = s → i ≤ c.length → (okL (c.take i) s = true → Lps EX rvB (rvS c i) (.out 0) rvN) ∧ (okL (c.take i) s = false → Lps EX rvB (rvS c i) .ret (rvR false)) := by
  intro s
  induction s with
  | nil =>
    intro i hd hi
    have e1 := congrArg List.length hd
    rw [List.length_drop, List.length_nil] at e1
    rw [okL]
    exact ⟨fun _ => .stop (rvB2 (by omega)) (fun h => by cases h), fun h => by cases h⟩
  | cons x s ih =>
    intro i hd hi
    have hx : c[i]? = some x := by rw [← List.head?_drop, hd]; rfl
    have hlt := (List.getElem?_eq_some_iff.1 hx).1
    have hd2 : c.drop (i + 1) = s := by rw [← List.drop_drop, hd]; rfl
    have ht : c.take i ++ [x] = c.take (i + 1) := by rw [List.take_add_one, hx]; rfl
    obtain ⟨k1, k2⟩ := ih (i + 1) hd2 (by omega)
    rw [okL, ht]
    have h1 := p_rValidT (hb x (List.mem_of_getElem? hx))
    have h2 := p_rcont (c := c.take i) (by have := List.length_take_le i c; omega) (fun y hy => (hb y (List.mem_of_mem_take hy)).wf) x
    cases b1 : x.valid with
    | false =>
      rw [b1] at h1
      exact ⟨fun e => by simp at e, fun _ => .stop (rvB3 hx h1) (fun h => by cases h)⟩
    | true =>
      rw [b1] at h1
      cases b2 : decide (x ∈ c.take i) with
      | true =>
        rw [b2] at h2
        exact ⟨fun e => by simp at e, fun _ => .stop (rvB4 hx h1 h2) (fun h => by cases h)⟩
      | false =>
        rw [b2] at h2
        exact ⟨fun e => .more (rvB1 hx hl h1 h2) (k1 (by simpa using e)), fun e => .more (rvB1 hx hl h1 h2) (k2 (by simpa using e))⟩
theorem p_rValidC {c : List Te} (hc : c.length ≤ 9223372036854775807) (hb : ∀ x ∈ c, x.Bd) : Puk 11 [tesA c] (boA (clsV c)) := by
  unfold clsV
  cases b1 : decide (c.length ≤ 60) with
  | false =>
    have e := of_decide_eq_false b1
    exact pwalk (an := [.av (inA c.length), yT]) (ls := []) (ps := [(vi ↑c.length) = (vi (↑(List.map Te.enc c).length)), Bn .gtr 3 (.tmp 5) (.const (vi 60)) (vi ↑c.length) (vi 60) bT]) Tryz.func11 (by kernel_rfl) (by kernel_rfl) ⟨lenEncT _, bin_igt (decide_eq_true (by omega)), trivial⟩
  | true =>
    have e := of_decide_eq_true b1
    obtain ⟨k1, k2⟩ := rv_loop e hb c 0 rfl (Nat.zero_le _)
    rw [List.take_zero] at k1 k2
    cases b2 : okL [] c with
    | false =>
      have ht := (k2 b2).tri
      exact pwalk (an := [.av (inA c.length), yF]) (ls := [.inv [0,3] 0 (.ret) (rvR false)]) (ps := [(vi ↑c.length) = (vi (↑(List.map Te.enc c).length)), Bn .gtr 3 (.tmp 5) (.const (vi 60)) (vi ↑c.length) (vi 60) bF, Tri EX (.loop (subC (bodyOf Tryz.f11) [1,1,0,1,0,0])) (rvS c 0) (.ret) (rvR false)]) Tryz.func11 (by kernel_rfl) (by kernel_rfl) ⟨lenEncT _, bin_igt (decide_eq_false (by omega)), ht, trivial⟩
    | true =>
      have ht := (k1 b2).tri
      exact pwalk (an := [.av (inA c.length), yF]) (ls := [.inv [0,3] 0 (.out 0) (rvN)]) (ps := [(vi ↑c.length) = (vi (↑(List.map Te.enc c).length)), Bn .gtr 3 (.tmp 5) (.const (vi 60)) (vi ↑c.length) (vi 60) bF, Tri EX (.loop (subC (bodyOf Tryz.f11) [1,1,0,1,0,0])) (rvS c 0) (.out 0) (rvN)]) Tryz.func11 (by kernel_rfl) (by kernel_rfl) ⟨lenEncT _, bin_igt (decide_eq_false (by omega)), ht, trivial⟩
end Go.Proofs.YtlbbfmijemnjdaaGreatDoor
/- The maker's objects, the names and arities of the primitives in the reference, and FewAll, for the laws on clauses. -/
namespace Go.Proofs.YtlbbfmijemnjdaaGreatDoor
open Go.RowKit

abbrev wrow (w : List UInt8) : List Dt := [.val (str w)]
/-- the primitives: name and arity -/
abbrev primL : List (List UInt8 × Nat) := [([105, 102], 3), ([101, 113, 117, 97, 108], 2), ([99, 111, 110, 115], 2), ([99, 97, 114], 1), ([99, 100, 114], 1), ([99, 111, 110, 115, 112], 1), ([115, 121, 109, 98, 111, 108, 112], 1), ([115, 116, 114, 105, 110, 103, 112], 1), ([114, 97, 116, 105, 111, 110, 97, 108, 112], 1), ([105, 110, 116, 101, 103, 101, 114, 112], 1), ([98, 105, 110, 97, 114, 121, 45, 43], 2), ([98, 105, 110, 97, 114, 121, 45, 42], 2), ([117, 110, 97, 114, 121, 45, 45], 1), ([117, 110, 97, 114, 121, 45, 47], 1), ([60], 2), ([110, 117, 109, 101, 114, 97, 116, 111, 114], 1), ([100, 101, 110, 111, 109, 105, 110, 97, 116, 111, 114], 1), ([102, 108, 111, 111, 114], 1), ([115, 121, 109, 98, 111, 108, 45, 110, 97, 109, 101], 1), ([115, 121, 109, 98, 111, 108, 45, 112, 97, 99, 107, 97, 103, 101, 45, 110, 97, 109, 101], 1), ([105, 110, 116, 101, 114, 110], 2), ([115, 116, 114, 105, 110, 103, 45, 97, 112, 112, 101, 110, 100], 2), ([115, 116, 114, 105, 110, 103, 45, 108, 101, 110, 103, 116, 104], 1), ([115, 116, 114, 105, 110, 103, 45, 98, 121, 116, 101], 2), ([98, 121, 116, 101, 45, 115, 116, 114, 105, 110, 103], 1)]
abbrev prow (x : List UInt8 × Nat) : List Dt := [.val (str lispB), .val (str x.1)]
abbrev rrow (x : List UInt8 × Nat) : List Dt := [.val (str x.1), .val (.int .i64 x.2)]
def pickN (n : Int) : List UInt8 × Nat := primL.getD (n % 25).toNat ([], 0)
theorem dropnil {α : Type} {l : List α} {i : Nat} (h : l.drop i = []) : l.length ≤ i := by
  have := congrArg List.length h
  rw [List.length_drop, List.length_nil] at this
  omega
theorem dropcons {α : Type} {l r : List α} {i : Nat} {b : α} (h : l.drop i = b :: r) : l[i]? = some b ∧ l.drop (i + 1) = r ∧ i < l.length := by
  have h1 : (l.drop i)[0]? = some b := by rw [h]; rfl
  rw [List.getElem?_drop, Nat.add_zero] at h1
  exact ⟨h1, by rw [← List.drop_drop, h]; rfl, (List.getElem?_eq_some_iff.1 h1).1⟩
theorem p_rText (t : List UInt8) : Puk 119 [stA t] (trA (.txt t)) :=
  ⟨fnm Tryz.func119 rfl (by kernel_rfl), fun ok w vs ht hv => by
    obtain rfl := hv.one_val
    exact (rText_any w t).mono fun _ _ h => RetLeaf.pure (r := txtO t) rfl h⟩
abbrev rowA (ts : List Tr) : AV := .dt (.row (ts.map fun t => encL t.ob))
theorem p_rRat {a b : List UInt8} (ha : a.length ≤ 1100000) (hb : b.length ≤ 1100000) : Puk 31 [stA a, stA b] (trA (.num (Rat.divInt (Dec.dval a) (Dec.dval b)))) :=
  ⟨fnm Tryz.func31 rfl (by kernel_rfl), fun ok w vs ht hv => by
    obtain ⟨u, us, rfl, h1, h2⟩ := hv
    obtain rfl := RL.one_val h2
    rw [Rd.val_eq h1]
    exact (rRationalQ a b w ha hb).mono fun _ _ h => RetLeaf.pure (r := ratO (Rat.divInt (Dec.dval a) (Dec.dval b))) rfl h⟩
theorem p_rFrom (n : Int) (h0 : -9223372036854775808 ≤ n) (h1 : n ≤ 9223372036854775807) : Puk 32 [inA n] (stA (Lib.itoa n)) :=
  ⟨fnm Tryz.func32 rfl (by kernel_rfl), fun ok w vs ht hv => by
    obtain rfl := hv.one_val
    refine (refFromInt_any n w ht.1 h0 h1).mono ?_
    rintro e w' ⟨rfl, h2⟩
    exact ⟨_, rfl, h2, .val _⟩⟩
theorem p_User (l : List UInt8) : Puk 33 [stA l] (syA userB l) := pwalk (an := []) (ls := []) (ps := []) Tryz.func33 (by kernel_rfl) (by kernel_rfl) trivial
theorem ix_name {k : Nat} {s : List UInt8} (h : symNames[k]? = some s) : IxAt (symNames.map wrow) (k : Int) 1 [.val (str s)] := ⟨Int.natCast_nonneg _, by
  rw [Int.toNat_natCast, List.getElem?_map, h]; rfl, rfl⟩
theorem p_SymA {n : Int} {k : Nat} {s : List UInt8} (hk : n % 13 = k) (h9 : k < 9) (hs : symNames[k]? = some s) : Puk 118 [inA n] (syA userB s) :=
  pwalk (an := [.no, .no, .av (inA k), .no, yT, .av (.pin [stA s]), .av (syA userB s)]) (ls := []) (ps := [Puk 12 [(inA n), (inA 13)] (inA ↑k), Bn .lss 3 (.tmp 12) (.tmp 14) (vi ↑k) (vi 9) bT, IxAt (symNames.map wrow) (k : Int) 1 [.val (str s)], Puk 33 [(stA s)] (syA userB s)]) Tryz.func118 (by kernel_rfl) (by kernel_rfl) ⟨(p_mod n 13 (by decide) (by decide)).val (by rw [hk]), bin_ilt (decide_eq_true (by omega)), ix_name hs, p_User s, trivial⟩
theorem p_Sym (n : Int) : Puk 118 [inA n] (syA (symP n).1 (symP n).2) := by
  obtain ⟨k, hk, hlt⟩ : ∃ k : Nat, n % 13 = k ∧ k < 13 := ⟨(n % 13).toNat, by omega, by omega⟩
  have e : symP n = symTab.getD k (userB, []) := by unfold symP; rw [hk]; rfl
  rw [e]
  match k, hlt, hk with
  | 0, _, hk => exact p_SymA hk (by decide) rfl
  | 1, _, hk => exact p_SymA hk (by decide) rfl
  | 2, _, hk => exact p_SymA hk (by decide) rfl
  | 3, _, hk => exact p_SymA hk (by decide) rfl
  | 4, _, hk => exact p_SymA hk (by decide) rfl
  | 5, _, hk => exact p_SymA hk (by decide) rfl
  | 6, _, hk => exact p_SymA hk (by decide) rfl
  | 7, _, hk => exact p_SymA hk (by decide) rfl
  | 8, _, hk => exact p_SymA hk (by decide) rfl
  | 9, _, hk => exact pwalk (an := [.no, .no, .av (inA 9), .no, .no, .no, .no, .av (syA lispB nilB)]) (ls := []) (ps := [Puk 12 [(inA n), (inA 13)] (inA 9), Puk 36 [(stA [110, 105, 108])] (syA lispB nilB)]) Tryz.func118 (by kernel_rfl) (by kernel_rfl) ⟨(p_mod n 13 (by decide) (by decide)).val (by rw [hk]; rfl), p_lisp _, trivial⟩
  | 10, _, hk => exact pwalk (an := [.no, .no, .av (inA 10), .no, .no, .no, .no, .no, .no, .no, .av (syA lispB [116])]) (ls := []) (ps := [Puk 12 [(inA n), (inA 13)] (inA 10), Puk 36 [(stA [116])] (syA lispB [116])]) Tryz.func118 (by kernel_rfl) (by kernel_rfl) ⟨(p_mod n 13 (by decide) (by decide)).val (by rw [hk]; rfl), p_lisp _, trivial⟩
  | 11, _, hk => exact pwalk (an := [.no, .no, .av (inA 11), .no, .no, .no, .no, .no, .no, .no, .no, .no, .no, .av (syA lispB [99, 97, 114])]) (ls := []) (ps := [Puk 12 [(inA n), (inA 13)] (inA 11), Puk 36 [(stA [99, 97, 114])] (syA lispB [99, 97, 114])]) Tryz.func118 (by kernel_rfl) (by kernel_rfl) ⟨(p_mod n 13 (by decide) (by decide)).val (by rw [hk]; rfl), p_lisp _, trivial⟩
  | 12, _, hk => exact pwalk (an := [.no, .no, .av (inA 12), .no, .no, .no, .no, .no, .no, .no, .no, .no, .no, .av (syA lispB [113, 117, 111, 116, 101])]) (ls := []) (ps := [Puk 12 [(inA n), (inA 13)] (inA 12), Puk 36 [(stA [113, 117, 111, 116, 101])] (syA lispB [113, 117, 111, 116, 101])]) Tryz.func118 (by kernel_rfl) (by kernel_rfl) ⟨(p_mod n 13 (by decide) (by decide)).val (by rw [hk]; rfl), p_lisp _, trivial⟩
theorem p_part {r x : Raw} {i : Nat} (h : r.l[i]? = some x) : Puk 55 [rawA r, inA i] (rawA x) :=
  pwalk (an := [.av (inA r.l.length), yT, .av (.pin ((encR x).map .dt))]) (ls := []) (ps := [(vi ↑r.l.length) = (vi (↑(List.map Raw.enc r.l).length)), Bn .lss 3 (.tmp 5) (.tmp 8) (vi ↑i) (vi ↑r.l.length) bT, IxAt (List.map Raw.enc r.l) ↑i 4 (encR x)]) Tryz.func55 (by kernel_rfl) (by kernel_rfl) ⟨lenEncR _, bin_ilt (decide_eq_true (by have := (List.getElem?_eq_some_iff.1 h).1; omega)), ix_raw h, trivial⟩
theorem p_part0 {r : Raw} {i : Nat} (h : r.l.length ≤ i) : Puk 55 [rawA r, inA i] (rawA ⟨0, 0, [], []⟩) :=
  pwalk (an := [.av (inA r.l.length), yF]) (ls := []) (ps := [(vi ↑r.l.length) = (vi (↑(List.map Raw.enc r.l).length)), Bn .lss 3 (.tmp 5) (.tmp 8) (vi ↑i) (vi ↑r.l.length) bF]) Tryz.func55 (by kernel_rfl) (by kernel_rfl) ⟨lenEncR _, bin_ilt (decide_eq_false (by omega)), trivial⟩
def prt (r : Raw) (i : Nat) : Raw := r.l.getD i ⟨0, 0, [], []⟩
theorem p_prt (r : Raw) (i : Nat) : Puk 55 [rawA r, inA i] (rawA (prt r i)) := by
  unfold prt
  rw [List.getD_eq_getElem?_getD]
  rcases Nat.lt_or_ge i r.l.length with h | h
  · rw [List.getElem?_eq_getElem h]; exact p_part (List.getElem?_eq_getElem h)
  · rw [List.getElem?_eq_none h]; exact p_part0 h
theorem prt_mk (r : Raw) (i : Nat) : mkT (prt r i) = (r.l.map mkT).getD i zeroT := by
  unfold prt
  rw [List.getD_eq_getElem?_getD, List.getD_eq_getElem?_getD, List.getElem?_map]
  cases r.l[i]? with
  | some x => rfl
  | none => rfl
theorem p_rList {ts : List Tr} (h : ts.length ≤ 1000000) : Puk 121 [rowA ts] (trA (Tr.list ts)) :=
  ⟨fnm Tryz.func121 rfl (by kernel_rfl), fun ok w vs ht hv => by
    obtain ⟨v, us, rfl, h1, h2⟩ := hv
    obtain rfl : us = [] := h2
    have h1' : Rd ok w v (.row (ts.map fun t => encL t.ob)) := h1
    obtain ⟨A, n, c, rfl, hn⟩ := Rd.slice h1'
    have e : (ts.map fun t => encL t.ob) = (ts.map Tr.ob).map Ob.enc := by
      rw [List.map_map]
      exact List.map_congr_left fun t _ => (enc_L t.ob).symm
    rw [e] at h1'
    have hl := h1'.len
    rw [List.length_map, List.length_map] at hl
    have hL := (rList_any ok (ts.map Tr.ob) A n c w h1' (by omega)).mono fun _ _ h => RetObj.pure h
    rw [← Tr.list_ob] at hL
    exact hL⟩
theorem mk_k0 {r : Raw} (hk : r.kind % 8 = 0) : Puk 101 [rawA r] (trA (.num ((r.n % 2001 - 1000 : Int) : Rat))) := pwalk (an := [.av (inA 0), .no, .av (inA (r.n % 2001)), .av (inA (r.n % 2001 - 1000)), .av (trA (.num ((r.n % 2001 - 1000 : Int) : Rat)))]) (ls := []) (ps := [Puk 12 [(inA r.kind), (inA 8)] (inA 0), Puk 12 [(inA r.n), (inA 2001)] (inA (r.n % 2001)), Bn .sub 3 (.tmp 13) (.const (vi 1000)) (vi (r.n % 2001)) (vi 1000) (vi (r.n % 2001 - 1000)), Puk 14 [(inA (r.n % 2001 - 1000))] (obA ((Tr.num ↑(r.n % 2001 - 1000)).ob))]) Tryz.func101 (by kernel_rfl) (by kernel_rfl) ⟨(p_mod r.kind 8 (by decide) (by decide)).val (by rw [hk]), p_mod _ _ (by decide) (by decide), bin_isub rfl (by omega) (by omega), p_rInt _ (by omega) (by omega), trivial⟩
theorem mk_k1 {r : Raw} (hk : r.kind % 8 = 1) : Puk 101 [rawA r] (trA (.num ((r.n % 2001 - 1000 : Int) : Rat))) := pwalk (an := [.av (inA 1), .no, .no, .av (inA (r.n % 2001)), .av (inA (r.n % 2001 - 1000)), .av (trA (.num ((r.n % 2001 - 1000 : Int) : Rat)))]) (ls := []) (ps := [Puk 12 [(inA r.kind), (inA 8)] (inA 1), Puk 12 [(inA r.n), (inA 2001)] (inA (r.n % 2001)), Bn .sub 3 (.tmp 13) (.const (vi 1000)) (vi (r.n % 2001)) (vi 1000) (vi (r.n % 2001 - 1000)), Puk 14 [(inA (r.n % 2001 - 1000))] (obA ((Tr.num ↑(r.n % 2001 - 1000)).ob))]) Tryz.func101 (by kernel_rfl) (by kernel_rfl) ⟨(p_mod r.kind 8 (by decide) (by decide)).val (by rw [hk]), p_mod _ _ (by decide) (by decide), bin_isub rfl (by omega) (by omega), p_rInt _ (by omega) (by omega), trivial⟩
theorem mk_k3 {r : Raw} (hk : r.kind % 8 = 3) : Puk 101 [rawA r] (trA (.sym (symP r.n).1 (symP r.n).2)) := pwalk (an := [.av (inA 3), .no, .no, .no, .no, .av (syA (symP r.n).1 (symP r.n).2), .av (trA (.sym (symP r.n).1 (symP r.n).2))]) (ls := []) (ps := [Puk 12 [(inA r.kind), (inA 8)] (inA 3), Puk 118 [(inA r.n)] (syA (symP r.n).fst (symP r.n).snd), Puk 117 [(syA (symP r.n).fst (symP r.n).snd)] (obA ((Tr.sym (symP r.n).fst (symP r.n).snd).ob))]) Tryz.func101 (by kernel_rfl) (by kernel_rfl) ⟨(p_mod r.kind 8 (by decide) (by decide)).val (by rw [hk]), p_Sym r.n, p_rSym _ _, trivial⟩
theorem mk_k4 {r : Raw} (hk : r.kind % 8 = 4) : Puk 101 [rawA r] (trA (.txt r.s)) := pwalk (an := [.av (inA 4), .no, .no, .no, .no, .no, .av (trA (.txt r.s))]) (ls := []) (ps := [Puk 12 [(inA r.kind), (inA 8)] (inA 4), Puk 119 [(stA r.s)] (trA (Tr.txt r.s))]) Tryz.func101 (by kernel_rfl) (by kernel_rfl) ⟨(p_mod r.kind 8 (by decide) (by decide)).val (by rw [hk]), p_rText r.s, trivial⟩
theorem w_k2 {r : Raw} {x y : List UInt8} {q : Rat} (hk : r.kind % 8 = 2) (hs : r.s.length ≤ 12) (hx : Puk 32 [inA (r.n % 41 - 20)] (stA x)) (hy : Puk 32 [inA (1 + r.s.length)] (stA y)) (hr : Puk 31 [stA x, stA y] (trA (.num q))) : Puk 101 [rawA r] (trA (.num q)) :=
  pwalk (an := [.av (inA 2), .no, .no, .no, .av (inA (r.n % 41)), .av (inA (r.n % 41 - 20)), .av (stA x), .av (inA r.s.length), .av (inA (1 + r.s.length)), .av (stA y), .av (trA (.num q))]) (ls := []) (ps := [Puk 12 [(inA r.kind), (inA 8)] (inA 2), Puk 12 [(inA r.n), (inA 41)] (inA (r.n % 41)), Bn .sub 3 (.tmp 20) (.const (vi 20)) (vi (r.n % 41)) (vi 20) (vi (r.n % 41 - 20)), Puk 32 [(inA (r.n % 41 - 20))] (stA x), (vi ↑r.s.length) = (vi (↑r.s.length)), Bn .add 3 (.const (vi 1)) (.tmp 25) (vi 1) (vi ↑r.s.length) (vi (1 + ↑r.s.length)), Puk 32 [(inA (1 + ↑r.s.length))] (stA y), Puk 31 [(stA x), (stA y)] (trA (Tr.num q))]) Tryz.func101 (by kernel_rfl) (by kernel_rfl) ⟨(p_mod r.kind 8 (by decide) (by decide)).val (by rw [hk]), p_mod _ _ (by decide) (by decide), bin_isub rfl (by omega) (by omega), hx, lenStr _, bin_iadd rfl (by omega) (by omega), hy, hr, trivial⟩
theorem mk_k2 {r : Raw} (hk : r.kind % 8 = 2) (hs : r.s.length ≤ 12) : Puk 101 [rawA r] (trA (.num (Rat.divInt (r.n % 41 - 20) (1 + r.s.length)))) := by
  have h := p_rRat (a := Lib.itoa (r.n % 41 - 20)) (b := Lib.itoa (1 + r.s.length : Int)) (Nat.le_trans (itoa_length_any _ (k := 2) (by decide) (by omega)) (by decide)) (Nat.le_trans (itoa_length_any _ (k := 2) (by decide) (by omega)) (by decide))
  rw [Dec.dval_itoa, Dec.dval_itoa] at h
  exact w_k2 hk hs (p_rFrom _ (by omega) (by omega)) (p_rFrom _ (by omega) (by omega)) h
theorem mk_k5 {r : Raw} {a b : Tr} (hk : r.kind % 8 = 5) (ha : Puk 101 [rawA (prt r 0)] (trA a)) (hb : Puk 101 [rawA (prt r 1)] (trA b)) : Puk 101 [rawA r] (trA (.cons a b)) :=
  pwalk (an := [.av (inA 5), .no, .no, .no, .no, .no, .no, .av (rawA (prt r 0)), .av (trA a), .av (rawA (prt r 1)), .av (trA b), .av (trA (.cons a b))]) (ls := []) (ps := [Puk 12 [(inA r.kind), (inA 8)] (inA 5), Puk 55 [(rawA r), (inA 0)] (.agg [(inA ((prt r 0).kind)), (inA ((prt r 0).n)), (stA (prt r 0).s), (.dt (.row (List.map Raw.enc (prt r 0).l)))]), Puk 101 [(.agg [(inA ((prt r 0).kind)), (inA ((prt r 0).n)), (stA (prt r 0).s), (.dt (.row (List.map Raw.enc (prt r 0).l)))])] (obA a.ob), Puk 55 [(rawA r), (inA 1)] (.agg [(inA ((prt r 1).kind)), (inA ((prt r 1).n)), (stA (prt r 1).s), (.dt (.row (List.map Raw.enc (prt r 1).l)))]), Puk 101 [(.agg [(inA ((prt r 1).kind)), (inA ((prt r 1).n)), (stA (prt r 1).s), (.dt (.row (List.map Raw.enc (prt r 1).l)))])] (obA b.ob), Puk 120 [(obA a.ob), (obA b.ob)] (trA (a.cons b))]) Tryz.func101 (by kernel_rfl) (by kernel_rfl) ⟨(p_mod r.kind 8 (by decide) (by decide)).val (by rw [hk]), p_prt r 0, ha, p_prt r 1, hb, p_rCons a.ob b.ob, trivial⟩
abbrev encOs (ts : List Tr) : List (List Dt) := ts.map fun t => encL t.ob
abbrev oq0 (r : Raw) : AS := ⟨stt 67 [(1, .ptr 0 0), (2, .ptr 1 0), (3, .nil), (4, inA 0)], [some (.cells [inA r.kind, inA r.n, stA r.s, .dt (.row (r.l.map Raw.enc))]), some (.cells [inA 0, stA [], stA [], stA [], stA [], stA [], .nil])]⟩
abbrev oqS (r : Raw) (es : List (List Dt)) (n : Nat) (i : Int) : AS := ⟨stt 67 [(1, .ptr 0 0), (2, .ptr 1 0), (3, .own 2 n), (4, inA i)], [some (.cells [inA r.kind, inA r.n, stA r.s, .dt (.row (r.l.map Raw.enc))]), some (.cells [inA 0, stA [], stA [], stA [], stA [], stA [], .nil]), some (.buf 32 7 es)]⟩
noncomputable abbrev oqB : Code := subC (bodyOf Tryz.f101) [1,1,1,0,1,0,0]
theorem one_src (t : Tr) : SrcOK 7 [encL t.ob] := by
  intro x hx
  rw [List.mem_singleton] at hx
  subst hx
  refine ⟨rfl, fun d hd => ?_⟩
  simp only [List.mem_cons, List.not_mem_nil, or_false] at hd
  rcases hd with rfl | rfl | rfl | rfl | rfl | rfl | rfl <;> rfl
theorem oqA {r x : Raw} {t : Tr} (hx : r.l[0]? = some x) (hl : r.l.length ≤ 8) (ht : Puk 101 [rawA x] (trA t)) : Tri EX oqB (oq0 r) .nxt (oqS r [encL t.ob] 1 ((1 : Nat) : Int)) :=
  twalk (c := subC (bodyOf Tryz.f101) [1,1,1,0,1,0,0]) (s := oq0 r) (an := [.av (inA r.l.length), yT, .av (.pin ((encR x).map .dt)), .av (trA t), .av (.un), .av (inA ((1 : Nat) : Int))]) (ls := []) (ft := [1,2,3,4]) (nb := 3) (e := .nxt) (s' := oqS r [encL t.ob] 1 ((1 : Nat) : Int)) (ps := [Value.int .i64 (r.l.length : Int) = Value.int .i64 ((r.l.map Raw.enc).length : Int), BinIs Tryz.prog .lss 3 (.tmp 49) (.tmp 52) (.int .i64 0) (.int .i64 (r.l.length : Int)) (.bool true), IxAt (r.l.map Raw.enc) 0 4 (encR x), Puk 101 [rawA x] (trA t), FitB 112 1, SrcOK 7 [encL t.ob], BinIs Tryz.prog .add 3 (.tmp 54) (.const (.int .i64 1)) (.int .i64 0) (.int .i64 1) (.int .i64 ((1 : Nat) : Int))]) (by kernel_rfl)
    ⟨lenEncR _, bin_ilt (decide_eq_true (by have := (List.getElem?_eq_some_iff.1 hx).1; omega)), ix_raw hx, ht, ⟨by decide, by decide⟩, one_src t, bin_iadd (by omega) (by omega) (by omega), trivial⟩
theorem oqE {r : Raw} : r.l = [] → Tri EX oqB (oq0 r) (.out 1) (oq0 r) := fun h =>
  twalk (c := subC (bodyOf Tryz.f101) [1,1,1,0,1,0,0]) (s := oq0 r) (an := [.av (inA r.l.length), yF]) (ls := []) (ft := [1,2,3,4]) (nb := 2) (e := .out 1) (s' := oq0 r) (ps := [(vi ↑r.l.length) = (vi (↑(List.map Raw.enc r.l).length)), Bn .lss 3 (.tmp 49) (.tmp 52) (vi 0) (vi ↑r.l.length) bF]) (by kernel_rfl)
    ⟨lenEncR _, bin_ilt (decide_eq_false (by rw [h]; decide)), trivial⟩
theorem oqN {r x : Raw} {t : Tr} {es : List (List Dt)} {n i : Nat} (hx : r.l[i]? = some x) (hl : r.l.length ≤ 8) (hn : es.length = n) (hi : n ≤ 8) (ht : Puk 101 [rawA x] (trA t)) : Tri EX oqB (oqS r es n i) .nxt (oqS r (es ++ [encL t.ob]) (es ++ [encL t.ob]).length ((i + 1 : Nat) : Int)) :=
  twalk (c := subC (bodyOf Tryz.f101) [1,1,1,0,1,0,0]) (s := oqS r es n i) (an := [.av (inA r.l.length), yT, .av (.pin ((encR x).map .dt)), .av (trA t), .av (.un), .av (inA ((i + 1 : Nat) : Int))]) (ls := []) (ft := [1,2,3,4]) (nb := 3) (e := .nxt) (s' := oqS r (es ++ [encL t.ob]) (es ++ [encL t.ob]).length ((i + 1 : Nat) : Int)) (ps := [Value.int .i64 (r.l.length : Int) = Value.int .i64 ((r.l.map Raw.enc).length : Int), BinIs Tryz.prog .lss 3 (.tmp 49) (.tmp 52) (.int .i64 (i : Int)) (.int .i64 (r.l.length : Int)) (.bool true), IxAt (r.l.map Raw.enc) (i : Int) 4 (encR x), Puk 101 [rawA x] (trA t), es.length = n, FitB 112 (es ++ [encL t.ob]).length, SrcOK 7 [encL t.ob], BinIs Tryz.prog .add 3 (.tmp 54) (.const (.int .i64 1)) (.int .i64 (i : Int)) (.int .i64 1) (.int .i64 ((i + 1 : Nat) : Int))]) (by kernel_rfl)
    ⟨lenEncR _, bin_ilt (decide_eq_true (by have := (List.getElem?_eq_some_iff.1 hx).1; omega)), ix_raw hx, ht, hn, ⟨by rw [List.length_append, hn]; exact Nat.le_trans (show n + 1 ≤ 9 by omega) (by decide), by rw [List.length_append, hn]; exact Nat.le_trans (Nat.mul_le_mul_right _ (show n + 1 ≤ 9 by omega)) (by decide)⟩, one_src t, bin_iadd (by omega) (by omega) (by have := (List.getElem?_eq_some_iff.1 hx).1; omega), trivial⟩
theorem oqF {r : Raw} {es : List (List Dt)} {n i : Nat} (hi : r.l.length ≤ i) : Tri EX oqB (oqS r es n i) (.out 1) (oqS r es n i) :=
  twalk (c := subC (bodyOf Tryz.f101) [1,1,1,0,1,0,0]) (s := oqS r es n i) (an := [.av (inA r.l.length), yF]) (ls := []) (ft := [1,2,3,4]) (nb := 3) (e := .out 1) (s' := oqS r es n i) (ps := [(vi ↑r.l.length) = (vi (↑(List.map Raw.enc r.l).length)), Bn .lss 3 (.tmp 49) (.tmp 52) (vi ↑i) (vi ↑r.l.length) bF]) (by kernel_rfl)
    ⟨lenEncR _, bin_ilt (decide_eq_false (by omega)), trivial⟩
theorem oq_go {r : Raw} (h8 : r.l.length ≤ 8) (hf : ∀ x ∈ r.l, Puk 101 [rawA x] (trA (mkT x))) : ∀ (s : List Raw) (i n : Nat) (es : List (List Dt)), r.l.drop i = s → i ≤ r.l.length → es.length = n → n + s.length ≤ 8 → ∃ j : Nat, Lps EX oqB (oqS r es n i) (.out 1) (oqS r (es ++ encOs (s.map mkT)) (es ++ encOs (s.map mkT)).length j) := by
  intro s
  induction s with
  | nil =>
    intro i n es hd hi hn _
    have := dropnil hd
    refine ⟨i, ?_⟩
    simp only [List.map_nil, encOs, List.append_nil]
    rw [hn]
    exact .stop (oqF this) (fun h => by cases h)
  | cons x s ih =>
    intro i n es hd hi hn h9
    obtain ⟨hx, hd', hlt⟩ := dropcons hd
    rw [List.length_cons] at h9
    obtain ⟨j, hj⟩ := ih (i + 1) (es ++ [encL (mkT x).ob]).length (es ++ [encL (mkT x).ob]) hd' (by omega) rfl (by rw [List.length_append, hn]; show n + 1 + _ ≤ 8; omega)
    refine ⟨j, .more (oqN hx h8 hn (by omega) (hf x (List.mem_of_getElem? hx))) ?_⟩
    have e : es ++ [encL (mkT x).ob] ++ encOs (s.map mkT) = es ++ encOs ((x :: s).map mkT) := by
      rw [List.append_assoc]; rfl
    rw [e] at hj
    exact hj
theorem mk_k60 {r : Raw} {ts : List Tr} (hk : r.kind % 8 = 6) (hr : r.l = []) (hts : ts = []) : Puk 101 [rawA r] (trA (Tr.list ts)) := by
  subst hts
  have hl := (Lps.stop (oqE hr) (fun h => by cases h)).tri
  have h2 := p_rList (ts := []) (Nat.zero_le _)
  exact pwalk (an := [.av (inA 6), .no, .no, .no, .no, .no, .no, .av (trA (Tr.list []))]) (ls := [.inv [1,2,3,4] 2 (.out 1) (oq0 r)]) (ps := [Puk 12 [inA r.kind, inA 8] (inA 6), Tri EX (.loop oqB) (oq0 r) (.out 1) (oq0 r), Puk 121 [rowA []] (trA (Tr.list []))]) Tryz.func101 (by kernel_rfl) (by kernel_rfl) ⟨(p_mod r.kind 8 (by decide) (by decide)).val (by rw [hk]), hl, h2, trivial⟩
theorem mk_k6 {r : Raw} {ts : List Tr} {j : Nat} (hk : r.kind % 8 = 6) (hl : Tri EX (.loop oqB) (oq0 r) (.out 1) (oqS r (encOs ts) (encOs ts).length j)) (h8 : ts.length ≤ 8) : Puk 101 [rawA r] (trA (Tr.list ts)) :=
  pwalk (an := [.av (inA 6), .no, .no, .no, .no, .no, .no, .av (trA (Tr.list ts))]) (ls := [.inv [1,2,3,4] 3 (.out 1) (oqS r (encOs ts) (encOs ts).length j)]) (ps := [Puk 12 [inA r.kind, inA 8] (inA 6), Tri EX (.loop oqB) (oq0 r) (.out 1) (oqS r (encOs ts) (encOs ts).length j), Puk 121 [rowA ts] (trA (Tr.list ts)), (encOs ts).length = (encOs ts).length]) Tryz.func101 (by kernel_rfl) (by kernel_rfl) ⟨(p_mod r.kind 8 (by decide) (by decide)).val (by rw [hk]), hl, p_rList (by omega), rfl, trivial⟩
theorem mk_k70 {r : Raw} {ts : List Tr} (hk : r.kind % 8 = 7) (hr : r.l = []) (hts : ts = []) : Puk 101 [rawA r] (trA (Tr.list ts)) := by
  subst hts
  have hl := (Lps.stop (oqE hr) (fun h => by cases h)).tri
  have h2 := p_rList (ts := []) (Nat.zero_le _)
  exact pwalk (an := [.av (inA 7), .no, .no, .no, .no, .no, .no, .av (trA (Tr.list []))]) (ls := [.inv [1,2,3,4] 2 (.out 1) (oq0 r)]) (ps := [Puk 12 [inA r.kind, inA 8] (inA 7), Tri EX (.loop oqB) (oq0 r) (.out 1) (oq0 r), Puk 121 [rowA []] (trA (Tr.list []))]) Tryz.func101 (by kernel_rfl) (by kernel_rfl) ⟨(p_mod r.kind 8 (by decide) (by decide)).val (by rw [hk]), hl, h2, trivial⟩
theorem mk_k7 {r : Raw} {ts : List Tr} {j : Nat} (hk : r.kind % 8 = 7) (hl : Tri EX (.loop oqB) (oq0 r) (.out 1) (oqS r (encOs ts) (encOs ts).length j)) (h8 : ts.length ≤ 8) : Puk 101 [rawA r] (trA (Tr.list ts)) :=
  pwalk (an := [.av (inA 7), .no, .no, .no, .no, .no, .no, .av (trA (Tr.list ts))]) (ls := [.inv [1,2,3,4] 3 (.out 1) (oqS r (encOs ts) (encOs ts).length j)]) (ps := [Puk 12 [inA r.kind, inA 8] (inA 7), Tri EX (.loop oqB) (oq0 r) (.out 1) (oqS r (encOs ts) (encOs ts).length j), Puk 121 [rowA ts] (trA (Tr.list ts)), (encOs ts).length = (encOs ts).length]) Tryz.func101 (by kernel_rfl) (by kernel_rfl) ⟨(p_mod r.kind 8 (by decide) (by decide)).val (by rw [hk]), hl, p_rList (by omega), rfl, trivial⟩
theorem mk_list {r : Raw} (hk : r.kind % 8 = 6 ∨ r.kind % 8 = 7) (h8 : r.l.length ≤ 8) (hf : ∀ x ∈ r.l, Puk 101 [rawA x] (trA (mkT x))) : Puk 101 [rawA r] (trA (Tr.list (r.l.map mkT))) := by
  have go := oq_go h8 hf
  match hr : r.l, h8, hf, go with
  | [], _, _, _ =>
    rcases hk with hk | hk
    · exact mk_k60 hk hr rfl
    · exact mk_k70 hk hr rfl
  | x :: s, h8, hf, go =>
    rw [List.length_cons] at h8
    obtain ⟨j, hj⟩ := go s 1 1 [encL (mkT x).ob] rfl (by simp) rfl (by omega)
    have h1 := oqA (r := r) (x := x) (by rw [hr]; rfl) (by rw [hr, List.length_cons]; omega) (hf x (List.mem_cons_self ..))
    have hl := (Lps.more h1 hj).tri
    have e : [encL (mkT x).ob] ++ encOs (s.map mkT) = encOs ((x :: s).map mkT) := rfl
    rw [e] at hl
    have l8 : ((x :: s).map mkT).length ≤ 8 := by rw [List.length_map, List.length_cons]; omega
    rcases hk with hk | hk
    · exact mk_k6 hk hl l8
    · exact mk_k7 hk hl l8
theorem p_mkOb : ∀ (N : Nat) (r : Raw), r.size ≤ N → Fit r → Puk 101 [rawA r] (trA (mkT r)) := by
  intro N
  induction N with
  | zero => intro r h; have := r.size_pos; omega
  | succ N ih =>
    intro r hN hf
    have kid : ∀ x ∈ r.l, Puk 101 [rawA x] (trA (mkT x)) := fun x hx => ih x (by have := Raw.size_l hx; omega) (hf.kids hx)
    have hp : ∀ i, Puk 101 [rawA (prt r i)] (trA (mkT (prt r i))) := fun i => by
      unfold prt
      rw [List.getD_eq_getElem?_getD]
      rcases Nat.lt_or_ge i r.l.length with h | h
      · rw [List.getElem?_eq_getElem h]; exact kid _ (List.getElem_mem h)
      · rw [List.getElem?_eq_none h]; exact mk_k0 (r := ⟨0, 0, [], []⟩) rfl
    rw [mkT_eq]
    unfold mkK
    have hb := Int.emod_nonneg r.kind (show (8 : Int) ≠ 0 by decide)
    have hb' := Int.emod_lt_of_pos r.kind (show (0 : Int) < 8 by decide)
    split
    · rename_i h
      rcases h with h | h
      · exact mk_k0 h
      · exact mk_k1 h
    · split
      · rename_i h; exact mk_k2 h hf.s
      · split
        · rename_i h; exact mk_k3 h
        · split
          · rename_i h; exact mk_k4 h
          · split
            · rename_i h
              rw [← prt_mk, ← prt_mk]
              exact mk_k5 h (hp 0) (hp 1)
            · exact mk_list (by omega) (by have := hf.l; omega) kid
theorem p_rows : Puk 124 [] (.dt (.row (primL.map rrow))) := pwalk (an := []) (ls := []) (ps := []) Tryz.func124 (by kernel_rfl) (by kernel_rfl) trivial
theorem p_rNames : Puk 103 [] (.dt (.row (primL.map prow))) := pwalk (an := [.av (.dt (.row (primL.map rrow))), .no, .no, .no, .av (syA lispB [105, 102]), .no, .no, .no, .no, .no, .av (syA lispB [101, 113, 117, 97, 108]), .no, .no, .no, .no, .no, .av (syA lispB [99, 111, 110, 115]), .no, .no, .no, .no, .no, .av (syA lispB [99, 97, 114]), .no, .no, .no, .no, .no, .av (syA lispB [99, 100, 114]), .no, .no, .no, .no, .no, .av (syA lispB [99, 111, 110, 115, 112]), .no, .no, .no, .no, .no, .av (syA lispB [115, 121, 109, 98, 111, 108, 112]), .no, .no, .no, .no, .no, .av (syA lispB [115, 116, 114, 105, 110, 103, 112]), .no, .no, .no, .no, .no, .av (syA lispB [114, 97, 116, 105, 111, 110, 97, 108, 112]), .no, .no, .no, .no, .no, .av (syA lispB [105, 110, 116, 101, 103, 101, 114, 112]), .no, .no, .no, .no, .no, .av (syA lispB [98, 105, 110, 97, 114, 121, 45, 43]), .no, .no, .no, .no, .no, .av (syA lispB [98, 105, 110, 97, 114, 121, 45, 42]), .no, .no, .no, .no, .no, .av (syA lispB [117, 110, 97, 114, 121, 45, 45]), .no, .no, .no, .no, .no, .av (syA lispB [117, 110, 97, 114, 121, 45, 47]), .no, .no, .no, .no, .no, .av (syA lispB [60]), .no, .no, .no, .no, .no, .av (syA lispB [110, 117, 109, 101, 114, 97, 116, 111, 114]), .no, .no, .no, .no, .no, .av (syA lispB [100, 101, 110, 111, 109, 105, 110, 97, 116, 111, 114]), .no, .no, .no, .no, .no, .av (syA lispB [102, 108, 111, 111, 114]), .no, .no, .no, .no, .no, .av (syA lispB [115, 121, 109, 98, 111, 108, 45, 110, 97, 109, 101]), .no, .no, .no, .no, .no, .av (syA lispB [115, 121, 109, 98, 111, 108, 45, 112, 97, 99, 107, 97, 103, 101, 45, 110, 97, 109, 101]), .no, .no, .no, .no, .no, .av (syA lispB [105, 110, 116, 101, 114, 110]), .no, .no, .no, .no, .no, .av (syA lispB [115, 116, 114, 105, 110, 103, 45, 97, 112, 112, 101, 110, 100]), .no, .no, .no, .no, .no, .av (syA lispB [115, 116, 114, 105, 110, 103, 45, 108, 101, 110, 103, 116, 104]), .no, .no, .no, .no, .no, .av (syA lispB [115, 116, 114, 105, 110, 103, 45, 98, 121, 116, 101]), .no, .no, .no, .no, .no, .av (syA lispB [98, 121, 116, 101, 45, 115, 116, 114, 105, 110, 103]), .no, .no]) (ls := []) (ps := [Puk 124 [] (.dt (.row (List.map rrow primL))), Puk 36 [(stA ([105, 102], 3).fst)] (syA lispB [105, 102]), Puk 36 [(stA ([101, 113, 117, 97, 108], 2).fst)] (syA lispB [101, 113, 117, 97, 108]), Puk 36 [(stA ([99, 111, 110, 115], 2).fst)] (syA lispB [99, 111, 110, 115]), Puk 36 [(stA ([99, 97, 114], 1).fst)] (syA lispB [99, 97, 114]), Puk 36 [(stA ([99, 100, 114], 1).fst)] (syA lispB [99, 100, 114]), Puk 36 [(stA ([99, 111, 110, 115, 112], 1).fst)] (syA lispB [99, 111, 110, 115, 112]), Puk 36 [(stA ([115, 121, 109, 98, 111, 108, 112], 1).fst)] (syA lispB [115, 121, 109, 98, 111, 108, 112]), Puk 36 [(stA ([115, 116, 114, 105, 110, 103, 112], 1).fst)] (syA lispB [115, 116, 114, 105, 110, 103, 112]), Puk 36 [(stA ([114, 97, 116, 105, 111, 110, 97, 108, 112], 1).fst)] (syA lispB [114, 97, 116, 105, 111, 110, 97, 108, 112]), Puk 36 [(stA ([105, 110, 116, 101, 103, 101, 114, 112], 1).fst)] (syA lispB [105, 110, 116, 101, 103, 101, 114, 112]), Puk 36 [(stA ([98, 105, 110, 97, 114, 121, 45, 43], 2).fst)] (syA lispB [98, 105, 110, 97, 114, 121, 45, 43]), Puk 36 [(stA ([98, 105, 110, 97, 114, 121, 45, 42], 2).fst)] (syA lispB [98, 105, 110, 97, 114, 121, 45, 42]), Puk 36 [(stA ([117, 110, 97, 114, 121, 45, 45], 1).fst)] (syA lispB [117, 110, 97, 114, 121, 45, 45]), Puk 36 [(stA ([117, 110, 97, 114, 121, 45, 47], 1).fst)] (syA lispB [117, 110, 97, 114, 121, 45, 47]), Puk 36 [(stA ([60], 2).fst)] (syA lispB [60]), Puk 36 [(stA ([110, 117, 109, 101, 114, 97, 116, 111, 114], 1).fst)] (syA lispB [110, 117, 109, 101, 114, 97, 116, 111, 114]), Puk 36 [(stA ([100, 101, 110, 111, 109, 105, 110, 97, 116, 111, 114], 1).fst)] (syA lispB [100, 101, 110, 111, 109, 105, 110, 97, 116, 111, 114]), Puk 36 [(stA ([102, 108, 111, 111, 114], 1).fst)] (syA lispB [102, 108, 111, 111, 114]), Puk 36 [(stA ([115, 121, 109, 98, 111, 108, 45, 110, 97, 109, 101], 1).fst)] (syA lispB [115, 121, 109, 98, 111, 108, 45, 110, 97, 109, 101]), Puk 36 [(stA ([115, 121, 109, 98, 111, 108, 45, 112, 97, 99, 107, 97, 103, 101, 45, 110, 97, 109, 101], 1).fst)] (syA lispB [115, 121, 109, 98, 111, 108, 45, 112, 97, 99, 107, 97, 103, 101, 45, 110, 97, 109, 101]), Puk 36 [(stA ([105, 110, 116, 101, 114, 110], 2).fst)] (syA lispB [105, 110, 116, 101, 114, 110]), Puk 36 [(stA ([115, 116, 114, 105, 110, 103, 45, 97, 112, 112, 101, 110, 100], 2).fst)] (syA lispB [115, 116, 114, 105, 110, 103, 45, 97, 112, 112, 101, 110, 100]), Puk 36 [(stA ([115, 116, 114, 105, 110, 103, 45, 108, 101, 110, 103, 116, 104], 1).fst)] (syA lispB [115, 116, 114, 105, 110, 103, 45, 108, 101, 110, 103, 116, 104]), Puk 36 [(stA ([115, 116, 114, 105, 110, 103, 45, 98, 121, 116, 101], 2).fst)] (syA lispB [115, 116, 114, 105, 110, 103, 45, 98, 121, 116, 101]), Puk 36 [(stA ([98, 121, 116, 101, 45, 115, 116, 114, 105, 110, 103], 1).fst)] (syA lispB [98, 121, 116, 101, 45, 115, 116, 114, 105, 110, 103]), 25 = 25]) Tryz.func103 (by kernel_rfl) (by kernel_rfl) ⟨p_rows, p_lisp _, p_lisp _, p_lisp _, p_lisp _, p_lisp _, p_lisp _, p_lisp _, p_lisp _, p_lisp _, p_lisp _, p_lisp _, p_lisp _, p_lisp _, p_lisp _, p_lisp _, p_lisp _, p_lisp _, p_lisp _, p_lisp _, p_lisp _, p_lisp _, p_lisp _, p_lisp _, p_lisp _, p_lisp _, by decide +kernel, trivial⟩
theorem p_rAr0 : Puk 122 [syA lispB [105, 102]] (.tup [inA 3, boA true]) := pwalk (an := [.no, .av (.dt (.row (primL.map rrow)))]) (ls := []) (ps := [Puk 124 [] (.dt (.row (List.map rrow primL)))]) Tryz.func122 (by kernel_rfl) (by kernel_rfl) ⟨p_rows, trivial⟩
theorem p_rAr1 : Puk 122 [syA lispB [101, 113, 117, 97, 108]] (.tup [inA 2, boA true]) := pwalk (an := [.no, .av (.dt (.row (primL.map rrow)))]) (ls := []) (ps := [Puk 124 [] (.dt (.row (List.map rrow primL)))]) Tryz.func122 (by kernel_rfl) (by kernel_rfl) ⟨p_rows, trivial⟩
theorem p_rAr2 : Puk 122 [syA lispB [99, 111, 110, 115]] (.tup [inA 2, boA true]) := pwalk (an := [.no, .av (.dt (.row (primL.map rrow)))]) (ls := []) (ps := [Puk 124 [] (.dt (.row (List.map rrow primL)))]) Tryz.func122 (by kernel_rfl) (by kernel_rfl) ⟨p_rows, trivial⟩
theorem p_rAr3 : Puk 122 [syA lispB [99, 97, 114]] (.tup [inA 1, boA true]) := pwalk (an := [.no, .av (.dt (.row (primL.map rrow)))]) (ls := []) (ps := [Puk 124 [] (.dt (.row (List.map rrow primL)))]) Tryz.func122 (by kernel_rfl) (by kernel_rfl) ⟨p_rows, trivial⟩
theorem p_rAr4 : Puk 122 [syA lispB [99, 100, 114]] (.tup [inA 1, boA true]) := pwalk (an := [.no, .av (.dt (.row (primL.map rrow)))]) (ls := []) (ps := [Puk 124 [] (.dt (.row (List.map rrow primL)))]) Tryz.func122 (by kernel_rfl) (by kernel_rfl) ⟨p_rows, trivial⟩
theorem p_rAr5 : Puk 122 [syA lispB [99, 111, 110, 115, 112]] (.tup [inA 1, boA true]) := pwalk (an := [.no, .av (.dt (.row (primL.map rrow)))]) (ls := []) (ps := [Puk 124 [] (.dt (.row (List.map rrow primL)))]) Tryz.func122 (by kernel_rfl) (by kernel_rfl) ⟨p_rows, trivial⟩
theorem p_rAr6 : Puk 122 [syA lispB [115, 121, 109, 98, 111, 108, 112]] (.tup [inA 1, boA true]) := pwalk (an := [.no, .av (.dt (.row (primL.map rrow)))]) (ls := []) (ps := [Puk 124 [] (.dt (.row (List.map rrow primL)))]) Tryz.func122 (by kernel_rfl) (by kernel_rfl) ⟨p_rows, trivial⟩
theorem p_rAr7 : Puk 122 [syA lispB [115, 116, 114, 105, 110, 103, 112]] (.tup [inA 1, boA true]) := pwalk (an := [.no, .av (.dt (.row (primL.map rrow)))]) (ls := []) (ps := [Puk 124 [] (.dt (.row (List.map rrow primL)))]) Tryz.func122 (by kernel_rfl) (by kernel_rfl) ⟨p_rows, trivial⟩
theorem p_rAr8 : Puk 122 [syA lispB [114, 97, 116, 105, 111, 110, 97, 108, 112]] (.tup [inA 1, boA true]) := pwalk (an := [.no, .av (.dt (.row (primL.map rrow)))]) (ls := []) (ps := [Puk 124 [] (.dt (.row (List.map rrow primL)))]) Tryz.func122 (by kernel_rfl) (by kernel_rfl) ⟨p_rows, trivial⟩
theorem p_rAr9 : Puk 122 [syA lispB [105, 110, 116, 101, 103, 101, 114, 112]] (.tup [inA 1, boA true]) := pwalk (an := [.no, .av (.dt (.row (primL.map rrow)))]) (ls := []) (ps := [Puk 124 [] (.dt (.row (List.map rrow primL)))]) Tryz.func122 (by kernel_rfl) (by kernel_rfl) ⟨p_rows, trivial⟩
theorem p_rAr10 : Puk 122 [syA lispB [98, 105, 110, 97, 114, 121, 45, 43]] (.tup [inA 2, boA true]) := pwalk (an := [.no, .av (.dt (.row (primL.map rrow)))]) (ls := []) (ps := [Puk 124 [] (.dt (.row (List.map rrow primL)))]) Tryz.func122 (by kernel_rfl) (by kernel_rfl) ⟨p_rows, trivial⟩
theorem p_rAr11 : Puk 122 [syA lispB [98, 105, 110, 97, 114, 121, 45, 42]] (.tup [inA 2, boA true]) := pwalk (an := [.no, .av (.dt (.row (primL.map rrow)))]) (ls := []) (ps := [Puk 124 [] (.dt (.row (List.map rrow primL)))]) Tryz.func122 (by kernel_rfl) (by kernel_rfl) ⟨p_rows, trivial⟩
theorem p_rAr12 : Puk 122 [syA lispB [117, 110, 97, 114, 121, 45, 45]] (.tup [inA 1, boA true]) := pwalk (an := [.no, .av (.dt (.row (primL.map rrow)))]) (ls := []) (ps := [Puk 124 [] (.dt (.row (List.map rrow primL)))]) Tryz.func122 (by kernel_rfl) (by kernel_rfl) ⟨p_rows, trivial⟩
theorem p_rAr13 : Puk 122 [syA lispB [117, 110, 97, 114, 121, 45, 47]] (.tup [inA 1, boA true]) := pwalk (an := [.no, .av (.dt (.row (primL.map rrow)))]) (ls := []) (ps := [Puk 124 [] (.dt (.row (List.map rrow primL)))]) Tryz.func122 (by kernel_rfl) (by kernel_rfl) ⟨p_rows, trivial⟩
theorem p_rAr14 : Puk 122 [syA lispB [60]] (.tup [inA 2, boA true]) := pwalk (an := [.no, .av (.dt (.row (primL.map rrow)))]) (ls := []) (ps := [Puk 124 [] (.dt (.row (List.map rrow primL)))]) Tryz.func122 (by kernel_rfl) (by kernel_rfl) ⟨p_rows, trivial⟩
theorem p_rAr15 : Puk 122 [syA lispB [110, 117, 109, 101, 114, 97, 116, 111, 114]] (.tup [inA 1, boA true]) := pwalk (an := [.no, .av (.dt (.row (primL.map rrow)))]) (ls := []) (ps := [Puk 124 [] (.dt (.row (List.map rrow primL)))]) Tryz.func122 (by kernel_rfl) (by kernel_rfl) ⟨p_rows, trivial⟩
theorem p_rAr16 : Puk 122 [syA lispB [100, 101, 110, 111, 109, 105, 110, 97, 116, 111, 114]] (.tup [inA 1, boA true]) := pwalk (an := [.no, .av (.dt (.row (primL.map rrow)))]) (ls := []) (ps := [Puk 124 [] (.dt (.row (List.map rrow primL)))]) Tryz.func122 (by kernel_rfl) (by kernel_rfl) ⟨p_rows, trivial⟩
theorem p_rAr17 : Puk 122 [syA lispB [102, 108, 111, 111, 114]] (.tup [inA 1, boA true]) := pwalk (an := [.no, .av (.dt (.row (primL.map rrow)))]) (ls := []) (ps := [Puk 124 [] (.dt (.row (List.map rrow primL)))]) Tryz.func122 (by kernel_rfl) (by kernel_rfl) ⟨p_rows, trivial⟩
theorem p_rAr18 : Puk 122 [syA lispB [115, 121, 109, 98, 111, 108, 45, 110, 97, 109, 101]] (.tup [inA 1, boA true]) := pwalk (an := [.no, .av (.dt (.row (primL.map rrow)))]) (ls := []) (ps := [Puk 124 [] (.dt (.row (List.map rrow primL)))]) Tryz.func122 (by kernel_rfl) (by kernel_rfl) ⟨p_rows, trivial⟩
theorem p_rAr19 : Puk 122 [syA lispB [115, 121, 109, 98, 111, 108, 45, 112, 97, 99, 107, 97, 103, 101, 45, 110, 97, 109, 101]] (.tup [inA 1, boA true]) := pwalk (an := [.no, .av (.dt (.row (primL.map rrow)))]) (ls := []) (ps := [Puk 124 [] (.dt (.row (List.map rrow primL)))]) Tryz.func122 (by kernel_rfl) (by kernel_rfl) ⟨p_rows, trivial⟩
theorem p_rAr20 : Puk 122 [syA lispB [105, 110, 116, 101, 114, 110]] (.tup [inA 2, boA true]) := pwalk (an := [.no, .av (.dt (.row (primL.map rrow)))]) (ls := []) (ps := [Puk 124 [] (.dt (.row (List.map rrow primL)))]) Tryz.func122 (by kernel_rfl) (by kernel_rfl) ⟨p_rows, trivial⟩
theorem p_rAr21 : Puk 122 [syA lispB [115, 116, 114, 105, 110, 103, 45, 97, 112, 112, 101, 110, 100]] (.tup [inA 2, boA true]) := pwalk (an := [.no, .av (.dt (.row (primL.map rrow)))]) (ls := []) (ps := [Puk 124 [] (.dt (.row (List.map rrow primL)))]) Tryz.func122 (by kernel_rfl) (by kernel_rfl) ⟨p_rows, trivial⟩
theorem p_rAr22 : Puk 122 [syA lispB [115, 116, 114, 105, 110, 103, 45, 108, 101, 110, 103, 116, 104]] (.tup [inA 1, boA true]) := pwalk (an := [.no, .av (.dt (.row (primL.map rrow)))]) (ls := []) (ps := [Puk 124 [] (.dt (.row (List.map rrow primL)))]) Tryz.func122 (by kernel_rfl) (by kernel_rfl) ⟨p_rows, trivial⟩
theorem p_rAr23 : Puk 122 [syA lispB [115, 116, 114, 105, 110, 103, 45, 98, 121, 116, 101]] (.tup [inA 2, boA true]) := pwalk (an := [.no, .av (.dt (.row (primL.map rrow)))]) (ls := []) (ps := [Puk 124 [] (.dt (.row (List.map rrow primL)))]) Tryz.func122 (by kernel_rfl) (by kernel_rfl) ⟨p_rows, trivial⟩
theorem p_rAr24 : Puk 122 [syA lispB [98, 121, 116, 101, 45, 115, 116, 114, 105, 110, 103]] (.tup [inA 1, boA true]) := pwalk (an := [.no, .av (.dt (.row (primL.map rrow)))]) (ls := []) (ps := [Puk 124 [] (.dt (.row (List.map rrow primL)))]) Tryz.func122 (by kernel_rfl) (by kernel_rfl) ⟨p_rows, trivial⟩
theorem pick_get (n : Int) : primL[(n % 25).toNat]? = some (pickN n) := by
  have h : (n % 25).toNat < primL.length := by show (n % 25).toNat < 25; omega
  unfold pickN
  rw [List.getD_eq_getElem?_getD, List.getElem?_eq_getElem h]
  rfl
theorem pick_mem (n : Int) : pickN n ∈ primL := List.mem_of_getElem? (pick_get n)
theorem p_rAri : ∀ {i : Nat} {s : List UInt8} {a : Nat}, primL[i]? = some (s, a) → Puk 122 [syA lispB s] (.tup [inA (a : Int), boA true])
  | 0, _, _, h => by cases h; exact p_rAr0
  | 1, _, _, h => by cases h; exact p_rAr1
  | 2, _, _, h => by cases h; exact p_rAr2
  | 3, _, _, h => by cases h; exact p_rAr3
  | 4, _, _, h => by cases h; exact p_rAr4
  | 5, _, _, h => by cases h; exact p_rAr5
  | 6, _, _, h => by cases h; exact p_rAr6
  | 7, _, _, h => by cases h; exact p_rAr7
  | 8, _, _, h => by cases h; exact p_rAr8
  | 9, _, _, h => by cases h; exact p_rAr9
  | 10, _, _, h => by cases h; exact p_rAr10
  | 11, _, _, h => by cases h; exact p_rAr11
  | 12, _, _, h => by cases h; exact p_rAr12
  | 13, _, _, h => by cases h; exact p_rAr13
  | 14, _, _, h => by cases h; exact p_rAr14
  | 15, _, _, h => by cases h; exact p_rAr15
  | 16, _, _, h => by cases h; exact p_rAr16
  | 17, _, _, h => by cases h; exact p_rAr17
  | 18, _, _, h => by cases h; exact p_rAr18
  | 19, _, _, h => by cases h; exact p_rAr19
  | 20, _, _, h => by cases h; exact p_rAr20
  | 21, _, _, h => by cases h; exact p_rAr21
  | 22, _, _, h => by cases h; exact p_rAr22
  | 23, _, _, h => by cases h; exact p_rAr23
  | 24, _, _, h => by cases h; exact p_rAr24
  | _ + 25, _, _, h => by cases h
/-- what 'Few' says -/
theorem left_fit : ∀ (N : Nat) (r : Raw), r.size ≤ N → ∀ m : Int, 0 ≤ m → m ≤ 1000 → 0 ≤ leftW r m → Fit r ∧ leftW r m + r.size ≤ m := by
  intro N
  induction N with
  | zero => intro r h; have := r.size_pos; omega
  | succ N ih =>
    intro r hN m h0 h1 hl
    have hr : r.size = Raw.sizeL r.l + 1 := by obtain ⟨k, n, s, l⟩ := r; rfl
    rw [leftW_eq] at hl ⊢
    split at hl
    · omega
    · rename_i hs
      rw [if_neg hs]
      split at hl
      · omega
      · rename_i h6
        rw [if_neg h6]
        rw [wr_id (by omega) (by omega)] at hl ⊢
        have key : ∀ (l : List Raw) (m : Int), (∀ x ∈ l, x.size ≤ N) → -1 ≤ m → m ≤ 1000 → 0 ≤ leftWL l m → (∀ x ∈ l, Fit x) ∧ leftWL l m + Raw.sizeL l ≤ m := by
          intro l
          induction l with
          | nil => intro m _ _ h1 _; rw [leftWL]; exact ⟨(fun x hx => by cases hx), by rw [Raw.sizeL]; omega⟩
          | cons x r ihr =>
            intro m hsz hm0 hm1 hp
            rw [leftWL] at hp ⊢
            split at hp
            · rename_i h0m
              rw [if_pos h0m]
              have hx : 0 ≤ leftW x m := by
                rcases Int.lt_or_le (leftW x m) 0 with h | h
                · rw [leftWL_neg h] at hp; omega
                · exact h
              obtain ⟨f1, f2⟩ := ih x (hsz x (List.mem_cons_self ..)) m h0m hm1 hx
              obtain ⟨g1, g2⟩ := ihr (leftW x m) (fun y hy => hsz y (List.mem_cons_of_mem _ hy)) (by omega) (by omega) hp
              refine ⟨fun y hy => ?_, by rw [Raw.sizeL]; omega⟩
              rcases List.mem_cons.1 hy with rfl | hy
              · exact f1
              · exact g1 y hy
            · omega
        obtain ⟨k1, k2⟩ := key r.l (m - 1) (fun x hx => by have := Raw.size_l hx; omega) (by omega) (by omega) hl
        exact ⟨.mk r (by omega) (by omega) k1, by omega⟩
theorem fewR_fit {r : Raw} {m : Int} (h0 : 0 ≤ m) (h1 : m ≤ 1000) (h : fewR r m = true) : Fit r := (left_fit _ r (Nat.le_refl _) m h0 h1 (of_decide_eq_true h)).1
theorem mk_ok {r : Raw} (h : Fit r) : (mkT r).Ok 10000 := (mkT_ok r h).mono (by decide)
/-- all of them -/
def fewAllR (l : List Raw) (m : Int) : Bool := decide (l.length ≤ 8) && l.all fun r => fewR r m
abbrev rawsA (l : List Raw) : AV := .dt (.row (l.map Raw.enc))
abbrev faS (l : List Raw) (m i : Int) : AS := ⟨stt 22 [(0, rawsA l), (1, inA m), (4, boA false), (5, inA i)], []⟩
noncomputable abbrev faB : Code := subC (bodyOf Tryz.f23) [1, 1, 0, 1, 0, 0]
theorem faB1 {l : List Raw} {x : Raw} {i : Nat} {m : Int} (hx : l[i]? = some x) (hl : l.length ≤ 8) (hf : fewR x m = true) : Tri EX faB (faS l m i) .nxt (faS l m ((i + 1 : Nat) : Int)) :=
  twalk (c := subC (bodyOf Tryz.f23) [1,1,0,1,0,0]) (s := faS l m i) (an := [.av (inA l.length), yT, .av (.pin ((encR x).map .dt)), yT, .av (inA ((i + 1 : Nat) : Int))]) (ls := []) (ft := [0,1,4,5]) (nb := 0) (e := .nxt) (s' := faS l m ((i + 1 : Nat) : Int)) (ps := [(vi ↑l.length) = (vi (↑(List.map Raw.enc l).length)), Bn .lss 3 (.tmp 9) (.tmp 11) (vi ↑i) (vi ↑l.length) bT, IxAt (List.map Raw.enc l) ↑i 4 (encR x), Puk 47 [(rawA x), (inA m)] (boA true), Bn .add 3 (.tmp 13) (.const (vi 1)) (vi ↑i) (vi 1) (vi (↑(i + 1)))]) (by kernel_rfl)
    ⟨lenEncR _, bin_ilt (decide_eq_true (by have := (List.getElem?_eq_some_iff.1 hx).1; omega)), ix_raw hx, (p_Few x m).b hf, bin_iadd (by omega) (by omega) (by have := (List.getElem?_eq_some_iff.1 hx).1; omega), trivial⟩
theorem faB2 {l : List Raw} {i : Nat} {m : Int} (hi : i = l.length) : Tri EX faB (faS l m i) (.out 0) (faS l m i) :=
  twalk (c := subC (bodyOf Tryz.f23) [1,1,0,1,0,0]) (s := faS l m i) (an := [.av (inA l.length), yF]) (ls := []) (ft := [0,1,4,5]) (nb := 0) (e := .out 0) (s' := faS l m i) (ps := [(vi ↑l.length) = (vi (↑(List.map Raw.enc l).length)), Bn .lss 3 (.tmp 9) (.tmp 11) (vi ↑i) (vi ↑l.length) bF]) (by kernel_rfl)
    ⟨lenEncR _, bin_ilt (decide_eq_false (by omega)), trivial⟩
theorem faB3 {l : List Raw} {x : Raw} {i : Nat} {m : Int} (hx : l[i]? = some x) (hf : fewR x m = false) : Tri EX faB (faS l m i) .ret (faS l m i) :=
  twalk (c := subC (bodyOf Tryz.f23) [1,1,0,1,0,0]) (s := faS l m i) (an := [.av (inA l.length), yT, .av (.pin ((encR x).map .dt)), yF]) (ls := []) (ft := [0,1,4,5]) (nb := 0) (e := .ret) (s' := faS l m i) (ps := [(vi ↑l.length) = (vi (↑(List.map Raw.enc l).length)), Bn .lss 3 (.tmp 9) (.tmp 11) (vi ↑i) (vi ↑l.length) bT, IxAt (List.map Raw.enc l) ↑i 4 (encR x), Puk 47 [(rawA x), (inA m)] (boA false)]) (by kernel_rfl)
    ⟨lenEncR _, bin_ilt (decide_eq_true (by have := (List.getElem?_eq_some_iff.1 hx).1; omega)), ix_raw hx, (p_Few x m).b hf, trivial⟩
theorem p_FewAll (l : List Raw) (m : Int) : Puk 23 [rawsA l, inA m] (boA (fewAllR l m)) := by
  unfold fewAllR
  by_cases h8 : l.length ≤ 8
  · rw [decide_eq_true h8, Bool.true_and]
    have loop : ∀ (s : List Raw) (i : Nat), l.drop i = s → i ≤ l.length → (s.all (fun r => fewR r m) = true → Lps EX faB (faS l m i) (.out 0) (faS l m l.length)) ∧ (s.all (fun r => fewR r m) = false → ∃ j : Nat, Lps EX faB (faS l m i) .ret (faS l m j)) := by
      intro s
      induction s with
      | nil =>
        intro i hd hi
        have := dropnil hd
        obtain rfl : i = l.length := by omega
        exact ⟨fun _ => .stop (faB2 rfl) (fun h => by cases h), fun h => by cases h⟩
      | cons x s ih =>
        intro i hd hi
        obtain ⟨hx, hd', hlt⟩ := dropcons hd
        obtain ⟨i1, i2⟩ := ih (i + 1) hd' (by omega)
        cases hf : fewR x m with
        | true =>
          rw [List.all_cons, hf, Bool.true_and]
          refine ⟨fun h => .more (faB1 hx h8 hf) (i1 h), fun h => ?_⟩
          obtain ⟨j, hj⟩ := i2 h
          exact ⟨j, .more (faB1 hx h8 hf) hj⟩
        | false =>
          rw [List.all_cons, hf, Bool.false_and]
          exact ⟨fun h => (by cases h), fun _ => ⟨i, .stop (faB3 hx hf) (fun h => by cases h)⟩⟩
    obtain ⟨l1, l2⟩ := loop l 0 rfl (Nat.zero_le _)
    cases ha : l.all (fun r => fewR r m) with
    | true =>
      have l1 := l1 ha
      exact pwalk (an := [.av (inA l.length), yF]) (ls := [.inv [0,1,4,5] 0 (.out 0) (faS l m l.length)]) (ps := [(vi ↑l.length) = (vi (↑(List.map Raw.enc l).length)), Bn .gtr 3 (.tmp 7) (.const (vi 8)) (vi ↑l.length) (vi 8) bF, Tri EX (.loop (subC (bodyOf Tryz.f23) [1, 1, 0, 1, 0, 0])) (faS l m 0) (.out 0) (faS l m l.length)]) Tryz.func23 (by kernel_rfl) (by kernel_rfl) ⟨lenEncR _, bin_igt (decide_eq_false (by omega)), l1.tri, trivial⟩
    | false =>
      obtain ⟨j, hj⟩ := l2 ha
      exact pwalk (an := [.av (inA l.length), yF]) (ls := [.inv [0,1,4,5] 0 (.ret) (faS l m j)]) (ps := [(vi ↑l.length) = (vi (↑(List.map Raw.enc l).length)), Bn .gtr 3 (.tmp 7) (.const (vi 8)) (vi ↑l.length) (vi 8) bF, Tri EX (.loop (subC (bodyOf Tryz.f23) [1, 1, 0, 1, 0, 0])) (faS l m 0) (.ret) (faS l m j)]) Tryz.func23 (by kernel_rfl) (by kernel_rfl) ⟨lenEncR _, bin_igt (decide_eq_false (by omega)), hj.tri, trivial⟩
  · rw [decide_eq_false h8, Bool.false_and]
    exact pwalk (an := [.av (inA l.length), yT]) (ls := []) (ps := [(vi ↑l.length) = (vi (↑(List.map Raw.enc l).length)), Bn .gtr 3 (.tmp 7) (.const (vi 8)) (vi ↑l.length) (vi 8) bT]) Tryz.func23 (by kernel_rfl) (by kernel_rfl) ⟨lenEncR _, bin_igt (decide_eq_true (by omega)), trivial⟩
end Go.Proofs.YtlbbfmijemnjdaaGreatDoor
