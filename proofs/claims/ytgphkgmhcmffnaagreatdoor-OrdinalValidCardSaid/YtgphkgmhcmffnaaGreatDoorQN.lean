/- Chapter 3's laws: the first check. -/
import Derived.Test.YtgphkgmhcmffnaaGreatDoorQC
import Derived.Test.YtgphkgmhcmffnaaGreatDoorMkB
namespace Go.Proofs.YtgphkgmhcmffnaaGreatDoor
open Go.RowKit

theorem uB : Tryz.prog.underlying 4 = some .bool := Tryz.underlying4
theorem natOk {n : Int} (h0 : 0 ≤ n) (h1 : n ≤ 1000) : (Tr.nat n).Ok 10000 := (Tr.ov_ok (nat_ov h0 h1)).mono (by decide)
theorem w1Ok : w1.Ok 10000 := (Tr.ov_ok f9).mono (by decide)
theorem w2Ok : w2.Ok 10000 := (Tr.ov_ok f6).mono (by decide)
theorem p_first : Puk 12 [] (boA true) :=
  pwalk (an := [some (trA (Tr.nat 1)), some (trA (Tr.nat 0)), some (resA (some w1)), some (resA (some w1)), some (resA (some w2)), some (trA (Tr.nat 2)), some (resA (some w1)), some (boA true), some (boA false), some (boA true), some (boA true), some (stA [119, 32, 43, 32, 49]), some (boA true)]) (ls := []) (ps := [Puk 41 [(inA 1)] (obA ((Tr.nat 1).ob)), Puk 41 [(inA 0)] (obA ((Tr.nat 0).ob)), Puk 17 [(obA ((Tr.nat 1).ob)), (obA ((Tr.nat 1).ob)), (obA ((Tr.nat 0).ob))] (.tup [(obA (resO (some w1))), (boA true)]), Puk 24 [(obA ((Tr.nat 1).ob)), (obA (resO (some w1)))] (.tup [(obA (resO (some w1))), (boA true)]), Puk 24 [(obA (resO (some w1))), (obA ((Tr.nat 1).ob))] (.tup [(obA (resO (some w2))), (boA true)]), Puk 41 [(inA 2)] (obA ((Tr.nat 2).ob)), Puk 26 [(obA ((Tr.nat 2).ob)), (obA (resO (some w1)))] (.tup [(obA (resO (some w1))), (boA true)]), Puk 19 [(obA (resO (some w1))), (obA (resO (some w1)))] (boA true), Puk 19 [(obA (resO (some w2))), (obA (resO (some w1)))] (boA false), Puk 19 [(obA (resO (some w1))), (obA (resO (some w1)))] (boA true), Puk 22 [(obA (resO (some w1))), (obA (resO (some w2)))] (boA true), Puk 28 [(obA (resO (some w2)))] (.dt (.val (Value.string ({ data := #[119, 32, 43, 32, 49] })))), BinIs Tryz.prog BinOp.eql 9 (Operand.tmp 69) (Operand.const (Value.string { data := #[119, 32, 43, 32, 49] })) (Value.string ({ data := #[119, 32, 43, 32, 49] })) (Value.string ({ data := #[119, 32, 43, 32, 49] })) (Value.bool true)]) Tryz.func12 (by kernel_rfl) (by kernel_rfl)
    ⟨p_oNatural (by decide) (by decide), p_oNatural (by decide) (by decide), (p_oPow (natOk (by decide) (by decide)) (natOk (by decide) (by decide)) (natOk (by decide) (by decide))).r f1, (p_oAddO (natOk (by decide) (by decide)) w1Ok).r f2, (p_oAddO w1Ok (natOk (by decide) (by decide))).r f3, p_oNatural (by decide) (by decide), (p_oMulO (natOk (by decide) (by decide)) w1Ok).r f4, p_rEqR w1.ob (w1Ok.wf (by decide)), (p_rEq w1 w2Ok (by decide)).b (decide_eq_false f8), p_rEqR w1.ob (w1Ok.wf (by decide)), (p_oOLess w1Ok w2Ok).b f5, (p_oFormat w2Ok).s (by rw [f6, if_pos rfl, f7]), bin_seq (by decide), trivial⟩
theorem natOk' {n : Int} (h0 : -1000 ≤ n) (h1 : n ≤ 1000) : (Tr.nat n).Ok 10000 := by
  have h : Rb 4 (n : Rat) := by
    refine ⟨?_, ?_, by decide⟩
    · rw [Rat.num_intCast]
      show n.natAbs < 10000
      omega
    · rw [Rat.den_intCast]
      decide
  exact h.mono (by decide)
end Go.Proofs.YtgphkgmhcmffnaaGreatDoor
/- Raw trees as plain values: 'left', 'Few', 'Object'. -/
namespace Go.Proofs.YtgphkgmhcmffnaaGreatDoor
open Go.RowKit

abbrev rawA (r : Raw) : AV := .agg [inA r.kind, inA r.n, stA r.s, .dt (.row (r.l.map Raw.enc))]
abbrev encR (r : Raw) : List Dt := [.val (.int .i64 r.kind), .val (.int .i64 r.n), .val (str r.s), .row (r.l.map Raw.enc)]
theorem enc_R (r : Raw) : r.enc = encR r := Raw.enc_eq r
theorem ix_raw {l : List Raw} {i : Nat} {o : Raw} (h : l[i]? = some o) : IxAt (l.map Raw.enc) (i : Int) 4 (encR o) := ⟨Int.natCast_nonneg _, by
  rw [Int.toNat_natCast, List.getElem?_map, h]
  exact congrArg some (enc_R o), rfl⟩
theorem lenEncR (l : List Raw) : Value.int .i64 (l.length : Int) = Value.int .i64 ((l.map Raw.enc).length : Int) := by rw [List.length_map]
mutual
def leftW : Raw → Int → Int
  | ⟨_, _, s, l⟩, m => if 12 < s.length then -1 else if 6 < l.length then -1 else leftWL l (wr (m - 1))
def leftWL : List Raw → Int → Int
  | [], m => m
  | x :: r, m => if 0 ≤ m then leftWL r (leftW x m) else m
end
theorem leftW_eq (r : Raw) (m : Int) : leftW r m = if 12 < r.s.length then -1 else if 6 < r.l.length then -1 else leftWL r.l (wr (m - 1)) := by
  cases r; rw [leftW]
theorem leftWL_neg {l : List Raw} {m : Int} (h : m < 0) : leftWL l m = m := by
  cases l with
  | nil => rw [leftWL]
  | cons x r => rw [leftWL, if_neg (by omega)]
theorem wr_id {n : Int} (h0 : -9223372036854775808 ≤ n) (h1 : n ≤ 9223372036854775807) : wr n = n := by
  show IntKind.i64.wrap n = n
  rw [IntKind.wrap_i64]; omega
/-- what 'Few' says -/
theorem left_fit : ∀ (N : Nat) (r : Raw), r.size ≤ N → ∀ m : Int, 0 ≤ m → m ≤ 1000 → 0 ≤ leftW r m → Fit r ∧ leftW r m ≤ 1000 := by
  intro N
  induction N with
  | zero => intro r h; have := r.size_pos; omega
  | succ N ih =>
    intro r hN m h0 h1 hl
    rw [leftW_eq] at hl ⊢
    split at hl
    · omega
    · rename_i hs
      rw [if_neg hs]
      split at hl
      · omega
      · rename_i h6
        rw [if_neg h6]
        rw [wr_id (by omega) (by omega)] at hl ⊢
        have key : ∀ (l : List Raw) (m : Int), (∀ x ∈ l, x.size ≤ N) → -1 ≤ m → m ≤ 1000 → 0 ≤ leftWL l m → (∀ x ∈ l, Fit x) ∧ leftWL l m ≤ 1000 := by
          intro l
          induction l with
          | nil => intro m _ _ h1 _; rw [leftWL]; exact ⟨(fun x hx => by cases hx), h1⟩
          | cons x r ihr =>
            intro m hsz hm0 hm1 hp
            rw [leftWL] at hp ⊢
            split at hp
            · rename_i h0m
              rw [if_pos h0m]
              have hx : 0 ≤ leftW x m := by
                rcases Int.lt_or_le (leftW x m) 0 with h | h
                · rw [leftWL_neg h] at hp; omega
                · exact h
              obtain ⟨f1, f2⟩ := ih x (hsz x (List.mem_cons_self ..)) m h0m hm1 hx
              obtain ⟨g1, g2⟩ := ihr (leftW x m) (fun y hy => hsz y (List.mem_cons_of_mem _ hy)) (by omega) f2 hp
              refine ⟨fun y hy => ?_, g2⟩
              rcases List.mem_cons.1 hy with rfl | hy
              · exact f1
              · exact g1 y hy
            · omega
        obtain ⟨k1, k2⟩ := key r.l (m - 1) (fun x hx => by have := Raw.size_l hx; omega) (by omega) (by omega) hl
        exact ⟨.mk r (by omega) (by omega) k1, k2⟩
def fewR (r : Raw) (m : Int) : Bool := decide (0 ≤ leftW r m)
theorem fewR_fit {r : Raw} {m : Int} (h0 : 0 ≤ m) (h1 : m ≤ 1000) (h : fewR r m = true) : Fit r := (left_fit _ r (Nat.le_refl _) m h0 h1 (of_decide_eq_true h)).1
abbrev lfS (r : Raw) (i m : Int) : AS := ⟨stt 37 [(1, inA m), (2, .ptr 0 0), (4, inA 0), (5, inA i)], [some (rawA r).cells]⟩
/-- a part that is handed out -/
def prtO (b x : Tr) : Ob := if b.ov then x.ob else zeroO
end Go.Proofs.YtgphkgmhcmffnaaGreatDoor
/- Raw trees: left, Few, Object as plain walks. -/
namespace Go.Proofs.YtgphkgmhcmffnaaGreatDoor
open Go.RowKit

noncomputable abbrev lfB : Code := subC (bodyOf Tryz.f51) [1, 1, 1, 0, 1, 0, 0]
theorem lfB1 {r x : Raw} {i : Nat} {m k : Int} (hx : r.l[i]? = some x) (hl : r.l.length ≤ 6) (h0 : 0 ≤ m) (hk : Puk 51 [rawA x, inA m] (inA k)) : Tri Tryz.prog Tab lfB (lfS r i m) .nxt (lfS r ((i + 1 : Nat) : Int) k) :=
  twalk (c := subC (bodyOf Tryz.f51) [1,1,1,0,1,0,0]) (s := lfS r i m) (an := [some (inA r.l.length), some (boA true), some (boA true), some (.pin (encR x)), some (inA k), some (inA ((i + 1 : Nat) : Int))]) (ls := []) (ft := [1,2,4,5]) (nb := 1) (e := .nxt) (s' := lfS r ((i + 1 : Nat) : Int) k) (ps := [(Value.int IntKind.i64 ↑r.l.length) = (Value.int IntKind.i64 (↑(List.map Raw.enc r.l).length)), BinIs Tryz.prog BinOp.lss 3 (Operand.tmp 18) (Operand.tmp 21) (Value.int IntKind.i64 ↑i) (Value.int IntKind.i64 ↑r.l.length) (Value.bool true), BinIs Tryz.prog BinOp.geq 3 (Operand.tmp 24) (Operand.const (Value.int IntKind.i64 0)) (Value.int IntKind.i64 m) (Value.int IntKind.i64 0) (Value.bool true), IxAt (List.map Raw.enc r.l) ↑i 4 ([(.val (Value.int IntKind.i64 x.kind)), (.val (Value.int IntKind.i64 x.n)), (.val (Value.string ({ data := x.s.toArray : ByteArray }))), (.row (List.map Raw.enc x.l))]), Puk 51 [(.agg [(inA x.kind), (inA x.n), (.dt (.val (Value.string ({ data := x.s.toArray : ByteArray })))), (.dt (.row (List.map Raw.enc x.l)))]), (inA m)] (inA k), BinIs Tryz.prog BinOp.add 3 (Operand.tmp 27) (Operand.const (Value.int IntKind.i64 1)) (Value.int IntKind.i64 ↑i) (Value.int IntKind.i64 1) (Value.int IntKind.i64 (↑(i + 1)))]) (by kernel_rfl)
    ⟨lenEncR _, bin_ilt (decide_eq_true (by have := (List.getElem?_eq_some_iff.1 hx).1; omega)), bin_ige (decide_eq_true h0), ix_raw hx, hk, bin_iadd (by omega) (by omega) (by have := (List.getElem?_eq_some_iff.1 hx).1; omega), trivial⟩
theorem lfB2 {r : Raw} {i : Nat} {m : Int} (hi : i = r.l.length) : Tri Tryz.prog Tab lfB (lfS r i m) (.out 0) (lfS r i m) :=
  twalk (c := subC (bodyOf Tryz.f51) [1,1,1,0,1,0,0]) (s := lfS r i m) (an := [some (inA r.l.length), some (boA false)]) (ls := []) (ft := [1,2,4,5]) (nb := 1) (e := .out 0) (s' := lfS r i m) (ps := [(Value.int IntKind.i64 ↑r.l.length) = (Value.int IntKind.i64 (↑(List.map Raw.enc r.l).length)), BinIs Tryz.prog BinOp.lss 3 (Operand.tmp 18) (Operand.tmp 21) (Value.int IntKind.i64 ↑i) (Value.int IntKind.i64 ↑r.l.length) (Value.bool false)]) (by kernel_rfl)
    ⟨lenEncR _, bin_ilt (decide_eq_false (by omega)), trivial⟩
theorem lfB3 {r : Raw} {i : Nat} {m : Int} (hi : i < r.l.length) (h0 : m < 0) : Tri Tryz.prog Tab lfB (lfS r i m) (.out 0) (lfS r i m) :=
  twalk (c := subC (bodyOf Tryz.f51) [1,1,1,0,1,0,0]) (s := lfS r i m) (an := [some (inA r.l.length), some (boA true), some (boA false)]) (ls := []) (ft := [1,2,4,5]) (nb := 1) (e := .out 0) (s' := lfS r i m) (ps := [(Value.int IntKind.i64 ↑r.l.length) = (Value.int IntKind.i64 (↑(List.map Raw.enc r.l).length)), BinIs Tryz.prog BinOp.lss 3 (Operand.tmp 18) (Operand.tmp 21) (Value.int IntKind.i64 ↑i) (Value.int IntKind.i64 ↑r.l.length) (Value.bool true), BinIs Tryz.prog BinOp.geq 3 (Operand.tmp 24) (Operand.const (Value.int IntKind.i64 0)) (Value.int IntKind.i64 m) (Value.int IntKind.i64 0) (Value.bool false)]) (by kernel_rfl)
    ⟨lenEncR _, bin_ilt (decide_eq_true (by omega)), bin_ige (decide_eq_false (by omega)), trivial⟩
theorem lenStr (l : List UInt8) : Value.int .i64 (l.length : Int) = Value.int .i64 ((⟨l.toArray⟩ : ByteArray).size : Int) := rfl
theorem p_left : ∀ (N : Nat) (r : Raw) (m : Int), r.size ≤ N → Puk 51 [rawA r, inA m] (inA (leftW r m)) := by
  intro N
  induction N with
  | zero => intro r m h; have := r.size_pos; omega
  | succ N ih =>
    intro r m hN
    rw [leftW_eq]
    by_cases h12 : 12 < r.s.length
    · rw [if_pos h12]
      exact pwalk (an := [some (inA r.s.length), some (boA true)]) (ls := []) (ps := [(Value.int IntKind.i64 ↑r.s.length) = (Value.int IntKind.i64 (↑{ data := r.s.toArray : ByteArray }.size)), BinIs Tryz.prog BinOp.gtr 3 (Operand.tmp 8) (Operand.const (Value.int IntKind.i64 12)) (Value.int IntKind.i64 ↑r.s.length) (Value.int IntKind.i64 12) (Value.bool true)]) Tryz.func51 (by kernel_rfl) (by kernel_rfl) ⟨lenStr _, bin_igt (decide_eq_true (by omega)), trivial⟩
    rw [if_neg h12]
    by_cases h6 : 6 < r.l.length
    · rw [if_pos h6]
      exact pwalk (an := [some (inA r.s.length), some (boA false), some (inA r.l.length), some (boA true)]) (ls := []) (ps := [(Value.int IntKind.i64 ↑r.s.length) = (Value.int IntKind.i64 (↑{ data := r.s.toArray : ByteArray }.size)), BinIs Tryz.prog BinOp.gtr 3 (Operand.tmp 8) (Operand.const (Value.int IntKind.i64 12)) (Value.int IntKind.i64 ↑r.s.length) (Value.int IntKind.i64 12) (Value.bool false), (Value.int IntKind.i64 ↑r.l.length) = (Value.int IntKind.i64 (↑(List.map Raw.enc r.l).length)), BinIs Tryz.prog BinOp.gtr 3 (Operand.tmp 13) (Operand.const (Value.int IntKind.i64 6)) (Value.int IntKind.i64 ↑r.l.length) (Value.int IntKind.i64 6) (Value.bool true)]) Tryz.func51 (by kernel_rfl) (by kernel_rfl) ⟨lenStr _, bin_igt (decide_eq_false (by omega)), lenEncR _, bin_igt (decide_eq_true (by omega)), trivial⟩
    rw [if_neg h6]
    have loop : ∀ (l : List Raw) (i : Nat) (m : Int), r.l.drop i = l → i ≤ r.l.length → (∀ x ∈ l, x.size ≤ N) → ∃ j : Nat, Lps Tryz.prog Tab lfB (lfS r i m) (.out 0) (lfS r j (leftWL l m)) := by
      intro l
      induction l with
      | nil =>
        intro i m hd hi _
        have : i = r.l.length := by
          have := congrArg List.length hd
          rw [List.length_drop, List.length_nil] at this
          omega
        rw [leftWL]
        exact ⟨i, .stop (lfB2 this) (fun h => by cases h)⟩
      | cons x l ihl =>
        intro i m hd hi hs
        have hx : r.l[i]? = some x := by rw [← List.head?_drop, hd]; rfl
        have hlt := (List.getElem?_eq_some_iff.1 hx).1
        rw [leftWL]
        by_cases h0 : 0 ≤ m
        · rw [if_pos h0]
          obtain ⟨j, hj⟩ := ihl (i + 1) (leftW x m) (by rw [← List.drop_drop, hd]; rfl) (by omega) (fun y hy => hs y (List.mem_cons_of_mem _ hy))
          exact ⟨j, .more (lfB1 hx (by omega) h0 (ih x m (hs x (List.mem_cons_self ..)))) hj⟩
        · rw [if_neg h0]
          exact ⟨i, .stop (lfB3 hlt (by omega)) (fun h => by cases h)⟩
    obtain ⟨j, hj⟩ := loop r.l 0 (wr (m - 1)) rfl (Nat.zero_le _) (fun x hx => by have := Raw.size_l hx; omega)
    generalize leftWL r.l (wr (m - 1)) = k at *
    exact pwalk (an := [some (inA r.s.length), some (boA false), some (inA r.l.length), some (boA false), none]) (ls := [⟨[1,2,4,5], 1, .out 0, lfS r j k⟩]) (ps := [(Value.int IntKind.i64 ↑r.s.length) = (Value.int IntKind.i64 (↑{ data := r.s.toArray : ByteArray }.size)), BinIs Tryz.prog BinOp.gtr 3 (Operand.tmp 8) (Operand.const (Value.int IntKind.i64 12)) (Value.int IntKind.i64 ↑r.s.length) (Value.int IntKind.i64 12) (Value.bool false), (Value.int IntKind.i64 ↑r.l.length) = (Value.int IntKind.i64 (↑(List.map Raw.enc r.l).length)), BinIs Tryz.prog BinOp.gtr 3 (Operand.tmp 13) (Operand.const (Value.int IntKind.i64 6)) (Value.int IntKind.i64 ↑r.l.length) (Value.int IntKind.i64 6) (Value.bool false), Tri Tryz.prog Tab (.loop (subC (bodyOf Tryz.f51) [1, 1, 1, 0, 1, 0, 0])) (lfS r 0 (wr (m - 1))) (.out 0) (lfS r j k)]) Tryz.func51 (by kernel_rfl) (by kernel_rfl) ⟨lenStr _, bin_igt (decide_eq_false (by omega)), lenEncR _, bin_igt (decide_eq_false (by omega)), hj.tri, trivial⟩
theorem p_Few (r : Raw) (m : Int) : Puk 20 [rawA r, inA m] (boA (fewR r m)) :=
  pwalk (an := [some (inA (leftW r m)), some (boA (fewR r m))]) (ls := []) (ps := [Puk 51 [(.agg [(inA r.kind), (inA r.n), (.dt (.val (Value.string ({ data := r.s.toArray : ByteArray })))), (.dt (.row (List.map Raw.enc r.l)))]), (inA m)] (inA (leftW r m)), BinIs Tryz.prog BinOp.geq 3 (Operand.tmp 7) (Operand.const (Value.int IntKind.i64 0)) (Value.int IntKind.i64 (leftW r m)) (Value.int IntKind.i64 0) (Value.bool (fewR r m))]) Tryz.func20 (by kernel_rfl) (by kernel_rfl) ⟨p_left _ r m (Nat.le_refl _), bin_ige rfl, trivial⟩
theorem RV.raw {M : Mm} {w : World} {o : Raw} {v : Value} (h : RV M w (rawA o) v) : ∃ A n c, v = rawV o (.slice A n c) ∧ Rd M.F w (.slice A n c) (.row (o.l.map Raw.enc)) := by
  obtain ⟨vs, rfl, u0, _, rfl, h0, u1, _, rfl, h1, u2, _, rfl, h2, u3, _, rfl, h3, rfl⟩ := h
  obtain ⟨A, n, c, rfl, _⟩ := Rd.slice h3
  refine ⟨A, n, c, ?_, h3⟩
  rw [Rd.val_eq h0, Rd.val_eq h1, Rd.val_eq h2]
theorem RV.ofRaw {M : Mm} {w : World} {o : Raw} {A : Option Addr} {n c : Nat} (h : Rd M.F w (.slice A n c) (.row (o.l.map Raw.enc))) : RV M w (rawA o) (rawV o (.slice A n c)) :=
  ⟨_, rfl, _, _, rfl, .val _, _, _, rfl, .val _, _, _, rfl, .val _, _, _, rfl, h, rfl⟩
theorem p_mkO {r : Raw} (hf : Fit r) (hw : r.Wf) : Puk 21 [rawA r] (trA (mkT r)) :=
  ⟨fnm Tryz.func21 rfl (by kernel_rfl), fun ok w vs ht hv => by
    obtain ⟨u, us, rfl, h1, rfl⟩ := hv
    obtain ⟨A, n, c, rfl, hr⟩ := RV.raw h1
    refine (mkO_any ok _ r (Nat.le_refl _) hf hw A n c w ht hr).mono ?_
    rintro e w' ⟨A', n', c', rfl, h2, h3⟩
    exact ⟨_, rfl, h3, RV.ofObj (h2.mono fun _ h _ => .inr h)⟩⟩
theorem mk_ok {r : Raw} (h : Fit r) : (mkT r).Ok 10000 := (mkT_ok r h).mono (by decide)
end Go.Proofs.YtgphkgmhcmffnaaGreatDoor
/- Chapter 3's laws on seeds and raw trees. -/
namespace Go.Proofs.YtgphkgmhcmffnaaGreatDoor
open Go.RowKit

theorem p_oGExp {b : Tr} (h : b.Ok 10000) : Puk 35 [trA b] (obA (prtO b b.exp)) := by
  unfold prtO
  cases hv : b.ov with
  | true => exact p_oPExp h hv
  | false => exact p_oPExp0 h hv
theorem p_rGExp {b : Tr} (h : b.Ok 10000) : Puk 36 [trA b] (obA (prtO b b.exp)) := by
  unfold prtO
  cases hv : b.ov with
  | true => exact p_rPExp h hv
  | false => exact p_rPExp0 h hv
theorem p_oGCoef {b : Tr} (h : b.Ok 10000) : Puk 37 [trA b] (obA (prtO b b.coef)) := by
  unfold prtO
  cases hv : b.ov with
  | true => exact p_oPCoef h hv
  | false => exact p_oPCoef0 h hv
theorem p_rGCoef {b : Tr} (h : b.Ok 10000) : Puk 38 [trA b] (obA (prtO b b.coef)) := by
  unfold prtO
  cases hv : b.ov with
  | true => exact p_rPCoef h hv
  | false => exact p_rPCoef0 h hv
theorem p_oGRest {b : Tr} (h : b.Ok 10000) : Puk 39 [trA b] (obA (prtO b b.rest)) := by
  unfold prtO
  cases hv : b.ov with
  | true => exact p_oPRest h hv
  | false => exact p_oPRest0 h hv
theorem p_rGRest {b : Tr} (h : b.Ok 10000) : Puk 40 [trA b] (obA (prtO b b.rest)) := by
  unfold prtO
  cases hv : b.ov with
  | true => exact p_rPRest h hv
  | false => exact p_rPRest0 h hv
theorem prtO_wf {b x : Tr} (h : x.Ok 10000) : (prtO b x).Wf := by
  unfold prtO
  split
  · exact h.wf (by decide)
  · exact zeroO_wf
theorem fin_eq (b : Tr) : (b.ov && b.isNat) = (b.valid && b.isNat) := by
  unfold Tr.ov
  cases hn : b.isNat with
  | false => simp
  | true => rw [Tr.nf_fin (Tr.isNat_fin hn).1, hn]; simp
theorem beqT {a b : Bool} (h : a = b) : (a == b) = true := by rw [h]; cases b <;> rfl
theorem p_OrdinalValid {s : Sd} {r : Raw} {c : Int} (hs : s.Wf) (hw : r.Wf) : Puk 10 [sdA s, rawA r, inA c] (boA true) := by
  cases hf : fewW [s] with
  | false => exact pwalk (an := [some (boA true), some (boA false)]) (ls := []) (ps := [Puk 12 [] (boA true), Puk 13 [(.dt (.row [[(.val (Value.int IntKind.i64 s.n)), (.row (List.map Sd.enc s.l))]]))] (boA false)]) Tryz.func10 (by kernel_rfl) (by kernel_rfl) ⟨p_first, (p_few1 hs).b hf, trivial⟩
  | true =>
  cases hr : fewR r 30 with
  | false => exact pwalk (an := [some (boA true), some (boA true), some (boA false)]) (ls := []) (ps := [Puk 12 [] (boA true), Puk 13 [(.dt (.row [[(.val (Value.int IntKind.i64 s.n)), (.row (List.map Sd.enc s.l))]]))] (boA true), Puk 20 [(.agg [(inA r.kind), (inA r.n), (.dt (.val (Value.string ({ data := r.s.toArray : ByteArray })))), (.dt (.row (List.map Raw.enc r.l)))]), (inA 30)] (boA false)]) Tryz.func10 (by kernel_rfl) (by kernel_rfl) ⟨p_first, (p_few1 hs).b hf, (p_Few r 30).b hr, trivial⟩
  | true =>
  have fr := fewR_fit (by decide) (by decide) hr
  have ob := mk_ok fr
  have pr := p_mkO fr hw
  have h0 := Int.emod_nonneg c (show (5 : Int) ≠ 0 by decide)
  have h1 := Int.emod_lt_of_pos c (show (0 : Int) < 5 by decide)
  have va := madeG_ov s
  have oa := made_ok s
  have pa := mk_made hs
  generalize madeG s = a at *
  generalize mkT r = b at *
  have on : (Tr.cons (.cons a (Tr.nat (c % 5 - 1))) b).Ok 10000 := ⟨⟨oa, natOk' (by omega) (by omega)⟩, ob⟩
  exact pwalk (an := [some (boA true), some (boA true), some (boA true), some (trA a), some (trA b), some (inA (c % 5)), some (inA (c % 5 - 1)), some (trA (Tr.nat (c % 5 - 1))), some (trA (.cons a (Tr.nat (c % 5 - 1)))), some (trA (.cons (.cons a (Tr.nat (c % 5 - 1))) b)), some (boA true), some (boA b.ov), some (boA b.ov), some (boA true), some (boA (Tr.cons (.cons a (Tr.nat (c % 5 - 1))) b).ov), some (boA (Tr.cons (.cons a (Tr.nat (c % 5 - 1))) b).ov), some (boA true), some (boA (b.ov && b.isNat)), some (boA (b.valid && b.isNat)), some (boA true), some (boA (a.ov && a.isNat)), some (boA (a.valid && a.isNat)), some (boA true)]) (ls := []) (ps := [Puk 12 [] (boA true), Puk 13 [(.dt (.row [[(.val (Value.int IntKind.i64 s.n)), (.row (List.map Sd.enc s.l))]]))] (boA true), Puk 20 [(.agg [(inA r.kind), (inA r.n), (.dt (.val (Value.string ({ data := r.s.toArray : ByteArray })))), (.dt (.row (List.map Raw.enc r.l)))]), (inA 30)] (boA true), Puk 14 [(.agg [(inA s.n), (.dt (.row (List.map Sd.enc s.l)))])] (obA a.ob), Puk 21 [(.agg [(inA r.kind), (inA r.n), (.dt (.val (Value.string ({ data := r.s.toArray : ByteArray })))), (.dt (.row (List.map Raw.enc r.l)))])] (obA b.ob), Puk 16 [(inA c), (inA 5)] (inA (c % 5)), BinIs Tryz.prog BinOp.sub 3 (Operand.tmp 27) (Operand.const (Value.int IntKind.i64 1)) (Value.int IntKind.i64 (c % 5)) (Value.int IntKind.i64 1) (Value.int IntKind.i64 (c % 5 - 1)), Puk 15 [(inA (c % 5 - 1))] (obA ((Tr.nat (c % 5 - 1)).ob)), Puk 30 [(obA a.ob), (obA ((Tr.nat (c % 5 - 1)).ob))] (obA ((a.cons (Tr.nat (c % 5 - 1))).ob)), Puk 30 [(obA ((a.cons (Tr.nat (c % 5 - 1))).ob)), (obA b.ob)] (obA (((a.cons (Tr.nat (c % 5 - 1))).cons b).ob)), Puk 31 [(obA a.ob)] (boA true), Puk 31 [(obA b.ob)] (boA b.ov), Puk 32 [(obA b.ob)] (boA b.ov), BinIs Tryz.prog BinOp.eql 4 (Operand.tmp 37) (Operand.tmp 39) (Value.bool b.ov) (Value.bool b.ov) (Value.bool true), Puk 31 [(obA (((a.cons (Tr.nat (c % 5 - 1))).cons b).ob))] (boA (((a.cons (Tr.nat (c % 5 - 1))).cons b).ov)), Puk 32 [(obA (((a.cons (Tr.nat (c % 5 - 1))).cons b).ob))] (boA (((a.cons (Tr.nat (c % 5 - 1))).cons b).ov)), BinIs Tryz.prog BinOp.eql 4 (Operand.tmp 44) (Operand.tmp 46) (Value.bool (((a.cons (Tr.nat (c % 5 - 1))).cons b).ov)) (Value.bool (((a.cons (Tr.nat (c % 5 - 1))).cons b).ov)) (Value.bool true), Puk 33 [(obA b.ob)] (boA (b.ov && b.isNat)), Puk 34 [(obA b.ob)] (boA (b.valid && b.isNat)), BinIs Tryz.prog BinOp.eql 4 (Operand.tmp 51) (Operand.tmp 53) (Value.bool (b.ov && b.isNat)) (Value.bool (b.valid && b.isNat)) (Value.bool true), Puk 33 [(obA a.ob)] (boA (a.ov && a.isNat)), Puk 34 [(obA a.ob)] (boA (a.valid && a.isNat)), BinIs Tryz.prog BinOp.eql 4 (Operand.tmp 58) (Operand.tmp 60) (Value.bool (a.ov && a.isNat)) (Value.bool (a.valid && a.isNat)) (Value.bool true)]) Tryz.func10 (by kernel_rfl) (by kernel_rfl)
    ⟨p_first, (p_few1 hs).b hf, (p_Few r 30).b hr, pa, pr, p_mod _ _ (by decide) (by decide), bin_isub rfl (by omega) (by omega), p_rInt _ (by omega) (by omega), p_rCons _ _, p_rCons _ _, (p_oOv (by decide) (by decide) oa).b va, p_oOv (by decide) (by decide) ob, p_rOv (by decide) (by decide) ob, bin_beq uB (beqT rfl), p_oOv (by decide) (by decide) on, p_rOv (by decide) (by decide) on, bin_beq uB (beqT rfl), p_oFinite (by decide) (by decide) ob, p_rFinite (by decide) ob, bin_beq uB (beqT (fin_eq b)), p_oFinite (by decide) (by decide) oa, p_rFinite (by decide) oa, bin_beq uB (beqT (fin_eq a)), trivial⟩
theorem p_OrdinalLess {s t : Sd} {r : Raw} (hs : s.Wf) (ht : t.Wf) (hw : r.Wf) : Puk 4 [sdA s, sdA t, rawA r] (boA true) := by
  cases hf : fewW [s, t] with
  | false => exact pwalk (an := [some (boA true), some (boA false)]) (ls := []) (ps := [Puk 12 [] (boA true), Puk 13 [(.dt (.row [[(.val (Value.int IntKind.i64 s.n)), (.row (List.map Sd.enc s.l))], [(.val (Value.int IntKind.i64 t.n)), (.row (List.map Sd.enc t.l))]]))] (boA false)]) Tryz.func4 (by kernel_rfl) (by kernel_rfl) ⟨p_first, (p_few2 hs ht).b hf, trivial⟩
  | true =>
  cases hr : fewR r 20 with
  | false => exact pwalk (an := [some (boA true), some (boA true), some (boA false)]) (ls := []) (ps := [Puk 12 [] (boA true), Puk 13 [(.dt (.row [[(.val (Value.int IntKind.i64 s.n)), (.row (List.map Sd.enc s.l))], [(.val (Value.int IntKind.i64 t.n)), (.row (List.map Sd.enc t.l))]]))] (boA true), Puk 20 [(.agg [(inA r.kind), (inA r.n), (.dt (.val (Value.string ({ data := r.s.toArray : ByteArray })))), (.dt (.row (List.map Raw.enc r.l)))]), (inA 20)] (boA false)]) Tryz.func4 (by kernel_rfl) (by kernel_rfl) ⟨p_first, (p_few2 hs ht).b hf, (p_Few r 20).b hr, trivial⟩
  | true =>
  have fr := fewR_fit (by decide) (by decide) hr
  have ob := mk_ok fr
  have pr := p_mkO fr hw
  have oa := made_ok s
  have oc := made_ok t
  have pa := mk_made hs
  have pc := mk_made ht
  generalize madeG s = a at *
  generalize madeG t = c at *
  generalize mkT r = b at *
  exact pwalk (an := [some (boA true), some (boA true), some (boA true), some (trA a), some (trA c), some (trA b), some (boA (a.ov && c.ov && Tr.less a c)), some (boA (a.ov && c.ov && Tr.less a c)), some (boA true), some (boA (a.ov && b.ov && Tr.less a b)), some (boA (a.ov && b.ov && Tr.less a b)), some (boA true), some (boA (b.ov && a.ov && Tr.less b a)), some (boA (b.ov && a.ov && Tr.less b a)), some (boA true)]) (ls := []) (ps := [Puk 12 [] (boA true), Puk 13 [(.dt (.row [[(.val (Value.int IntKind.i64 s.n)), (.row (List.map Sd.enc s.l))], [(.val (Value.int IntKind.i64 t.n)), (.row (List.map Sd.enc t.l))]]))] (boA true), Puk 20 [(.agg [(inA r.kind), (inA r.n), (.dt (.val (Value.string ({ data := r.s.toArray : ByteArray })))), (.dt (.row (List.map Raw.enc r.l)))]), (inA 20)] (boA true), Puk 14 [(.agg [(inA s.n), (.dt (.row (List.map Sd.enc s.l)))])] (obA a.ob), Puk 14 [(.agg [(inA t.n), (.dt (.row (List.map Sd.enc t.l)))])] (obA c.ob), Puk 21 [(.agg [(inA r.kind), (inA r.n), (.dt (.val (Value.string ({ data := r.s.toArray : ByteArray })))), (.dt (.row (List.map Raw.enc r.l)))])] (obA b.ob), Puk 22 [(obA a.ob), (obA c.ob)] (boA (a.ov && c.ov && a.less c)), Puk 23 [(obA a.ob), (obA c.ob)] (boA (a.ov && c.ov && a.less c)), BinIs Tryz.prog BinOp.eql 4 (Operand.tmp 30) (Operand.tmp 33) (Value.bool (a.ov && c.ov && a.less c)) (Value.bool (a.ov && c.ov && a.less c)) (Value.bool true), Puk 22 [(obA a.ob), (obA b.ob)] (boA (a.ov && b.ov && a.less b)), Puk 23 [(obA a.ob), (obA b.ob)] (boA (a.ov && b.ov && a.less b)), BinIs Tryz.prog BinOp.eql 4 (Operand.tmp 38) (Operand.tmp 41) (Value.bool (a.ov && b.ov && a.less b)) (Value.bool (a.ov && b.ov && a.less b)) (Value.bool true), Puk 22 [(obA b.ob), (obA a.ob)] (boA (b.ov && a.ov && b.less a)), Puk 23 [(obA b.ob), (obA a.ob)] (boA (b.ov && a.ov && b.less a)), BinIs Tryz.prog BinOp.eql 4 (Operand.tmp 47) (Operand.tmp 50) (Value.bool (b.ov && a.ov && b.less a)) (Value.bool (b.ov && a.ov && b.less a)) (Value.bool true)]) Tryz.func4 (by kernel_rfl) (by kernel_rfl)
    ⟨p_first, (p_few2 hs ht).b hf, (p_Few r 20).b hr, pa, pc, pr, p_oOLess oa oc, p_rOLess oa oc, bin_beq uB (beqT rfl), p_oOLess oa ob, p_rOLess oa ob, bin_beq uB (beqT rfl), p_oOLess ob oa, p_rOLess ob oa, bin_beq uB (beqT rfl), trivial⟩
theorem p_OrdinalFormats {s : Sd} {r : Raw} (hs : s.Wf) (hw : r.Wf) : Puk 9 [sdA s, rawA r] (boA true) := by
  cases hf : fewW [s] with
  | false => exact pwalk (an := [some (boA true), some (boA false)]) (ls := []) (ps := [Puk 12 [] (boA true), Puk 13 [(.dt (.row [[(.val (Value.int IntKind.i64 s.n)), (.row (List.map Sd.enc s.l))]]))] (boA false)]) Tryz.func9 (by kernel_rfl) (by kernel_rfl) ⟨p_first, (p_few1 hs).b hf, trivial⟩
  | true =>
  cases hr : fewR r 20 with
  | false => exact pwalk (an := [some (boA true), some (boA true), some (boA false)]) (ls := []) (ps := [Puk 12 [] (boA true), Puk 13 [(.dt (.row [[(.val (Value.int IntKind.i64 s.n)), (.row (List.map Sd.enc s.l))]]))] (boA true), Puk 20 [(.agg [(inA r.kind), (inA r.n), (.dt (.val (Value.string ({ data := r.s.toArray : ByteArray })))), (.dt (.row (List.map Raw.enc r.l)))]), (inA 20)] (boA false)]) Tryz.func9 (by kernel_rfl) (by kernel_rfl) ⟨p_first, (p_few1 hs).b hf, (p_Few r 20).b hr, trivial⟩
  | true =>
  have fr := fewR_fit (by decide) (by decide) hr
  have ob := mk_ok fr
  have pr := p_mkO fr hw
  have oa := made_ok s
  have pa := mk_made hs
  have f1 := p_oFormat oa
  have f2 := p_rFormat oa
  have g1 := p_oFormat ob
  have g2 := p_rFormat ob
  generalize (if (madeG s).ov = true then (madeG s).fmt else []) = x at *
  generalize (if (mkT r).ov = true then (mkT r).fmt else []) = y at *
  generalize madeG s = a at *
  generalize mkT r = b at *
  exact pwalk (an := [some (boA true), some (boA true), some (boA true), some (trA b), some (trA a), some (stA x), some (trA a), some (stA x), some (boA true), some (stA y), some (stA y), some (boA true)]) (ls := []) (ps := [Puk 12 [] (boA true), Puk 13 [(.dt (.row [[(.val (Value.int IntKind.i64 s.n)), (.row (List.map Sd.enc s.l))]]))] (boA true), Puk 20 [(.agg [(inA r.kind), (inA r.n), (.dt (.val (Value.string ({ data := r.s.toArray : ByteArray })))), (.dt (.row (List.map Raw.enc r.l)))]), (inA 20)] (boA true), Puk 21 [(.agg [(inA r.kind), (inA r.n), (.dt (.val (Value.string ({ data := r.s.toArray : ByteArray })))), (.dt (.row (List.map Raw.enc r.l)))])] (obA b.ob), Puk 14 [(.agg [(inA s.n), (.dt (.row (List.map Sd.enc s.l)))])] (obA a.ob), Puk 28 [(obA a.ob)] (.dt (.val (Value.string ({ data := x.toArray : ByteArray })))), Puk 14 [(.agg [(inA s.n), (.dt (.row (List.map Sd.enc s.l)))])] (obA a.ob), Puk 29 [(obA a.ob)] (.dt (.val (Value.string ({ data := x.toArray : ByteArray })))), BinIs Tryz.prog BinOp.eql 9 (Operand.tmp 21) (Operand.tmp 24) (Value.string ({ data := x.toArray : ByteArray })) (Value.string ({ data := x.toArray : ByteArray })) (Value.bool true), Puk 28 [(obA b.ob)] (.dt (.val (Value.string ({ data := y.toArray : ByteArray })))), Puk 29 [(obA b.ob)] (.dt (.val (Value.string ({ data := y.toArray : ByteArray })))), BinIs Tryz.prog BinOp.eql 9 (Operand.tmp 28) (Operand.tmp 30) (Value.string ({ data := y.toArray : ByteArray })) (Value.string ({ data := y.toArray : ByteArray })) (Value.bool true)]) Tryz.func9 (by kernel_rfl) (by kernel_rfl)
    ⟨p_first, (p_few1 hs).b hf, (p_Few r 20).b hr, pr, pa, f1, pa, f2, bin_seq (decide_eq_true rfl), g1, g2, bin_seq (decide_eq_true rfl), trivial⟩
theorem pow_inf {e k r : Tr} (h : (Tr.cons (.cons e k) r).ov = true) : Tr.powO e k r = some (.cons (.cons e k) r) := by unfold Tr.powO; rw [if_pos h]
theorem pow_fin (a : Tr) : Tr.powO Tr.zero a Tr.zero = none := by
  unfold Tr.powO
  rw [if_neg]
  intro h
  have := Tr.nf_parts (Tr.ov_nf h)
  have h2 := this.hez
  cases h2
theorem p_OrdinalParts {s : Sd} {r : Raw} (hs : s.Wf) (hw : r.Wf) : Puk 11 [sdA s, rawA r] (boA true) := by
  cases hf : fewW [s] with
  | false => exact pwalk (an := [some (boA true), some (boA false)]) (ls := []) (ps := [Puk 12 [] (boA true), Puk 13 [(.dt (.row [[(.val (Value.int IntKind.i64 s.n)), (.row (List.map Sd.enc s.l))]]))] (boA false)]) Tryz.func11 (by kernel_rfl) (by kernel_rfl) ⟨p_first, (p_few1 hs).b hf, trivial⟩
  | true =>
  cases hr : fewR r 30 with
  | false => exact pwalk (an := [some (boA true), some (boA true), some (boA false)]) (ls := []) (ps := [Puk 12 [] (boA true), Puk 13 [(.dt (.row [[(.val (Value.int IntKind.i64 s.n)), (.row (List.map Sd.enc s.l))]]))] (boA true), Puk 20 [(.agg [(inA r.kind), (inA r.n), (.dt (.val (Value.string ({ data := r.s.toArray : ByteArray })))), (.dt (.row (List.map Raw.enc r.l)))]), (inA 30)] (boA false)]) Tryz.func11 (by kernel_rfl) (by kernel_rfl) ⟨p_first, (p_few1 hs).b hf, (p_Few r 30).b hr, trivial⟩
  | true =>
  have fr := fewR_fit (by decide) (by decide) hr
  have ob := mk_ok fr
  have pr := p_mkO fr hw
  have va := madeG_ov s
  have oa := made_ok s
  have pa := mk_made hs
  generalize madeG s = a at *
  generalize mkT r = b at *
  have w1 := p_rEqR _ (prtO_wf (b := b) (exp_ok ob (by decide)))
  have w2 := p_rEqR _ (prtO_wf (b := b) (coef_ok ob))
  have w3 := p_rEqR _ (prtO_wf (b := b) (rest_ok ob (by decide)))
  rcases Tr.fin_or a with fa | ⟨e, k, q, rfl⟩
  · have hn : a.isNat = true := by rw [← Tr.nf_fin fa]; exact Tr.ov_nf va
    have hp : Tr.powO a.exp a.coef a.rest = none := by rw [Tr.exp_fin fa, Tr.coef_fin fa, Tr.rest_fin fa]; exact pow_fin a
    exact pwalk (an := [some (boA true), some (boA true), some (boA true), some (trA a), some (trA b), some (obA (prtO b b.exp)), some (obA (prtO b b.exp)), some (boA true), some (obA (prtO b b.coef)), some (obA (prtO b b.coef)), some (boA true), some (obA (prtO b b.rest)), some (obA (prtO b b.rest)), some (boA true), some (trA a.exp), some (trA a.coef), some (trA a.rest), some (resA none), some (boA true)]) (ls := []) (ps := [Puk 12 [] (boA true), Puk 13 [(.dt (.row [[(.val (Value.int IntKind.i64 s.n)), (.row (List.map Sd.enc s.l))]]))] (boA true), Puk 20 [(.agg [(inA r.kind), (inA r.n), (.dt (.val (Value.string ({ data := r.s.toArray : ByteArray })))), (.dt (.row (List.map Raw.enc r.l)))]), (inA 30)] (boA true), Puk 14 [(.agg [(inA s.n), (.dt (.row (List.map Sd.enc s.l)))])] (obA a.ob), Puk 21 [(.agg [(inA r.kind), (inA r.n), (.dt (.val (Value.string ({ data := r.s.toArray : ByteArray })))), (.dt (.row (List.map Raw.enc r.l)))])] (obA b.ob), Puk 35 [(obA b.ob)] (obA (prtO b b.exp)), Puk 36 [(obA b.ob)] (obA (prtO b b.exp)), Puk 19 [(obA (prtO b b.exp)), (obA (prtO b b.exp))] (boA true), Puk 37 [(obA b.ob)] (obA (prtO b b.coef)), Puk 38 [(obA b.ob)] (obA (prtO b b.coef)), Puk 19 [(obA (prtO b b.coef)), (obA (prtO b b.coef))] (boA true), Puk 39 [(obA b.ob)] (obA (prtO b b.rest)), Puk 40 [(obA b.ob)] (obA (prtO b b.rest)), Puk 19 [(obA (prtO b b.rest)), (obA (prtO b b.rest))] (boA true), Puk 35 [(obA a.ob)] (obA a.exp.ob), Puk 37 [(obA a.ob)] (obA a.coef.ob), Puk 39 [(obA a.ob)] (obA a.rest.ob), Puk 17 [(obA a.exp.ob), (obA a.coef.ob), (obA a.rest.ob)] (.tup [(obA (resO none)), (boA false)]), Puk 33 [(obA a.ob)] (boA true)]) Tryz.func11 (by kernel_rfl) (by kernel_rfl)
      ⟨p_first, (p_few1 hs).b hf, (p_Few r 30).b hr, pa, pr, p_oGExp ob, p_rGExp ob, w1, p_oGCoef ob, p_rGCoef ob, w2, p_oGRest ob, p_rGRest ob, w3, p_oPExp oa va, p_oPCoef oa va, p_oPRest oa va, (p_oPow (exp_ok oa (by decide)) (coef_ok oa) (rest_ok oa (by decide))).r hp, (p_oFinite (by decide) (by decide) oa).b (by rw [va, hn]; rfl), trivial⟩
  · exact pwalk (an := [some (boA true), some (boA true), some (boA true), some (trA (.cons (.cons e k) q)), some (trA b), some (obA (prtO b b.exp)), some (obA (prtO b b.exp)), some (boA true), some (obA (prtO b b.coef)), some (obA (prtO b b.coef)), some (boA true), some (obA (prtO b b.rest)), some (obA (prtO b b.rest)), some (boA true), some (trA e), some (trA k), some (trA q), some (resA (some (.cons (.cons e k) q))), some (boA false), some (boA true)]) (ls := []) (ps := [Puk 12 [] (boA true), Puk 13 [(.dt (.row [[(.val (Value.int IntKind.i64 s.n)), (.row (List.map Sd.enc s.l))]]))] (boA true), Puk 20 [(.agg [(inA r.kind), (inA r.n), (.dt (.val (Value.string ({ data := r.s.toArray : ByteArray })))), (.dt (.row (List.map Raw.enc r.l)))]), (inA 30)] (boA true), Puk 14 [(.agg [(inA s.n), (.dt (.row (List.map Sd.enc s.l)))])] (obA (((e.cons k).cons q).ob)), Puk 21 [(.agg [(inA r.kind), (inA r.n), (.dt (.val (Value.string ({ data := r.s.toArray : ByteArray })))), (.dt (.row (List.map Raw.enc r.l)))])] (obA b.ob), Puk 35 [(obA b.ob)] (obA (prtO b b.exp)), Puk 36 [(obA b.ob)] (obA (prtO b b.exp)), Puk 19 [(obA (prtO b b.exp)), (obA (prtO b b.exp))] (boA true), Puk 37 [(obA b.ob)] (obA (prtO b b.coef)), Puk 38 [(obA b.ob)] (obA (prtO b b.coef)), Puk 19 [(obA (prtO b b.coef)), (obA (prtO b b.coef))] (boA true), Puk 39 [(obA b.ob)] (obA (prtO b b.rest)), Puk 40 [(obA b.ob)] (obA (prtO b b.rest)), Puk 19 [(obA (prtO b b.rest)), (obA (prtO b b.rest))] (boA true), Puk 35 [(obA (((e.cons k).cons q).ob))] (obA e.ob), Puk 37 [(obA (((e.cons k).cons q).ob))] (obA k.ob), Puk 39 [(obA (((e.cons k).cons q).ob))] (obA q.ob), Puk 17 [(obA e.ob), (obA k.ob), (obA q.ob)] (.tup [(obA (resO (some ((e.cons k).cons q)))), (boA true)]), Puk 33 [(obA (((e.cons k).cons q).ob))] (boA false), Puk 19 [(obA (resO (some ((e.cons k).cons q)))), (obA (((e.cons k).cons q).ob))] (boA true)]) Tryz.func11 (by kernel_rfl) (by kernel_rfl)
      ⟨p_first, (p_few1 hs).b hf, (p_Few r 30).b hr, pa, pr, p_oGExp ob, p_rGExp ob, w1, p_oGCoef ob, p_rGCoef ob, w2, p_oGRest ob, p_rGRest ob, w3, p_oPExp oa va, p_oPCoef oa va, p_oPRest oa va, (p_oPow oa.1.1 oa.1.2 oa.2).r (pow_inf va), (p_oFinite (by decide) (by decide) oa).b (by rw [va]; rfl), p_rEqR _ (oa.wf (by decide)), trivial⟩
theorem ordinalValid_any (W : World) (ht : Tab W) (s0 : Sd) (h0 : s0.Wf) (A0 : Option Addr) (n0 c0 : Nat) (r0 : Rd (fun _ => True) W (.slice A0 n0 c0) (.row (s0.l.map Sd.enc))) (s1 : Raw) (h1 : s1.Wf) (A1 : Option Addr) (n1 c1 : Nat) (r1 : Rd (fun _ => True) W (.slice A1 n1 c1) (.row (s1.l.map Raw.enc))) (s2 : Int) (_ : -9223372036854775808 ≤ s2) (_ : s2 ≤ 9223372036854775807) : Calls Tryz.prog 10 #[sdV s0 (.slice A0 n0 c0), rawV s1 (.slice A1 n1 c1), .int .i64 s2] W (RetBel (.bool true) W) :=
  Puk.calls (p_OrdinalValid h0 h1) ht ⟨_, _, rfl, RV.ofSd r0, _, _, rfl, RV.ofRaw r1, _, _, rfl, .val _, rfl⟩
theorem ordinalLess_any (W : World) (ht : Tab W) (s0 : Sd) (h0 : s0.Wf) (A0 : Option Addr) (n0 c0 : Nat) (r0 : Rd (fun _ => True) W (.slice A0 n0 c0) (.row (s0.l.map Sd.enc))) (s1 : Sd) (h1 : s1.Wf) (A1 : Option Addr) (n1 c1 : Nat) (r1 : Rd (fun _ => True) W (.slice A1 n1 c1) (.row (s1.l.map Sd.enc))) (s2 : Raw) (h2 : s2.Wf) (A2 : Option Addr) (n2 c2 : Nat) (r2 : Rd (fun _ => True) W (.slice A2 n2 c2) (.row (s2.l.map Raw.enc))) : Calls Tryz.prog 4 #[sdV s0 (.slice A0 n0 c0), sdV s1 (.slice A1 n1 c1), rawV s2 (.slice A2 n2 c2)] W (RetBel (.bool true) W) :=
  Puk.calls (p_OrdinalLess h0 h1 h2) ht ⟨_, _, rfl, RV.ofSd r0, _, _, rfl, RV.ofSd r1, _, _, rfl, RV.ofRaw r2, rfl⟩
theorem ordinalFormats_any (W : World) (ht : Tab W) (s0 : Sd) (h0 : s0.Wf) (A0 : Option Addr) (n0 c0 : Nat) (r0 : Rd (fun _ => True) W (.slice A0 n0 c0) (.row (s0.l.map Sd.enc))) (s1 : Raw) (h1 : s1.Wf) (A1 : Option Addr) (n1 c1 : Nat) (r1 : Rd (fun _ => True) W (.slice A1 n1 c1) (.row (s1.l.map Raw.enc))) : Calls Tryz.prog 9 #[sdV s0 (.slice A0 n0 c0), rawV s1 (.slice A1 n1 c1)] W (RetBel (.bool true) W) :=
  Puk.calls (p_OrdinalFormats h0 h1) ht ⟨_, _, rfl, RV.ofSd r0, _, _, rfl, RV.ofRaw r1, rfl⟩
theorem ordinalParts_any (W : World) (ht : Tab W) (s0 : Sd) (h0 : s0.Wf) (A0 : Option Addr) (n0 c0 : Nat) (r0 : Rd (fun _ => True) W (.slice A0 n0 c0) (.row (s0.l.map Sd.enc))) (s1 : Raw) (h1 : s1.Wf) (A1 : Option Addr) (n1 c1 : Nat) (r1 : Rd (fun _ => True) W (.slice A1 n1 c1) (.row (s1.l.map Raw.enc))) : Calls Tryz.prog 11 #[sdV s0 (.slice A0 n0 c0), rawV s1 (.slice A1 n1 c1)] W (RetBel (.bool true) W) :=
  Puk.calls (p_OrdinalParts h0 h1) ht ⟨_, _, rfl, RV.ofSd r0, _, _, rfl, RV.ofRaw r1, rfl⟩
end Go.Proofs.YtgphkgmhcmffnaaGreatDoor
