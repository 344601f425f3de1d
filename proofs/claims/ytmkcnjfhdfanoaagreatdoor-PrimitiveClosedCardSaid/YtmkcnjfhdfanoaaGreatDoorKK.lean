/- strings.Fields at the text of the primitives' names. -/
import Derived.Test.YtmkcnjfhdfanoaaGreatDoorKJ
import Derived.Test.YtmkcnjfhdfanoaaGreatDoorKG
namespace Go.Proofs.YtmkcnjfhdfanoaaGreatDoor
open Go.RowKit

theorem glT (i : Nat) (h : i < 256) : ∀ w, Gx w → w.cell? ⟨0, i, none⟩ = some (.int .u8 (spB i)) := fun w hw => tabT_ok w hw _ i _ (by
  unfold tabT
  rw [Nat.beq_refl, show Nat.ble (i + 1) 256 = true from Nat.ble_eq_true_of_le h]
  rfl)
theorem glT' {i : Nat} {r : Int} (h : i < 256) (hr : spB i = r) : GlIs Gx 0 ((i : Int).toNat * 1) (.int .u8 r) := by
  subst hr
  rw [Nat.mul_one, Int.toNat_natCast]
  exact glT i h
theorem u8ix (b : UInt8) : GlIx (b.toNat : Int) 256 := ⟨by omega, by have := b.toNat_lt; omega, by decide⟩
theorem ix_b {b : UInt8} {i : Nat} (h : namesB[i]? = some b) : IxS ⟨namesB.toArray⟩ (i : Int) (.int .u8 b.toNat) := ⟨b, Int.natCast_nonneg _, by
  rw [bytes_get, Int.toNat_natCast]; exact h, rfl⟩
theorem or_u8 {P : Program} {t : TypeId} {x y : Operand} (a b : Int) : BinIs P .or t x y (.int .u8 a) (.int .u8 b) (.int .u8 (or8 a b)) := sbin_is (by unfold sbin or8; rfl)
theorem s1_00 {i : Nat} {b : UInt8} {n bt : Int} (hb : namesB[i]? = some b) (hi : i < 267) (h0 : 0 ≤ n) (h1 : n ≤ 1000) (hs : spB b.toNat = 0) : Tri EX bd1 (st1 i n 0 bt) .nxt (st1 (i + 1) n 0 (or8 bt b.toNat)) :=
  twalk (c := subC (bodyOf Tryz.f41) [1,1,1,1,0,1,0,0]) (s := st1 i n 0 bt) (an := [.no, yT, .av (.dt (.val (.int .u8 b.toNat))), .av (.dt (.val (.int .u8 (or8 bt b.toNat)))), .av (.un), .av (.dt (.val (.int .u8 0))), .no, .no, .av (inA n), .av (inA (i + 1 : Nat))]) (ls := []) (ft := [0, 2, 3, 4, 5, 6]) (nb := 0) (e := .nxt) (s' := st1 (i + 1) n 0 (or8 bt b.toNat)) (ps := [Bn .lss 3 (.tmp 13) (.tmp 15) (vi ↑i) (vi 267) bT, IxS ({ data := namesB.toArray : ByteArray }) ↑i (Value.int .u8 ↑b.toNat), Bn .or 5 (.tmp 22) (.tmp 23) (Value.int .u8 bt) (Value.int .u8 ↑b.toNat) (Value.int .u8 (or8 bt ↑b.toNat)), GlIx ↑b.toNat 256, GlIs Gx 0 ((Int.toNat ↑b.toNat) * 1) (Value.int .u8 0), Bn .add 3 (.tmp 29) (.tmp 33) (vi n) (vi 0) (vi n), Bn .add 3 (.tmp 17) (.const (vi 1)) (vi ↑i) (vi 1) (vi (↑(i + 1)))]) (by kernel_rfl)
  ⟨bin_ilt (b := 267) (decide_eq_true (by omega)), ix_b hb, or_u8 _ _, u8ix b, glT' (by have := b.toNat_lt; omega) hs, bin_iadd (by omega) (by omega) (by omega), bin_iadd (by omega) (by omega) (by omega), trivial⟩
theorem s1_01 {i : Nat} {b : UInt8} {n bt : Int} (hb : namesB[i]? = some b) (hi : i < 267) (h0 : 0 ≤ n) (h1 : n ≤ 1000) (hs : spB b.toNat = 1) : Tri EX bd1 (st1 i n 0 bt) .nxt (st1 (i + 1) n 1 (or8 bt b.toNat)) :=
  twalk (c := subC (bodyOf Tryz.f41) [1,1,1,1,0,1,0,0]) (s := st1 i n 0 bt) (an := [.no, yT, .av (.dt (.val (.int .u8 b.toNat))), .av (.dt (.val (.int .u8 (or8 bt b.toNat)))), .av (.un), .av (.dt (.val (.int .u8 1))), .no, .no, .av (inA n), .av (inA (i + 1 : Nat))]) (ls := []) (ft := [0, 2, 3, 4, 5, 6]) (nb := 0) (e := .nxt) (s' := st1 (i + 1) n 1 (or8 bt b.toNat)) (ps := [Bn .lss 3 (.tmp 13) (.tmp 15) (vi ↑i) (vi 267) bT, IxS ({ data := namesB.toArray : ByteArray }) ↑i (Value.int .u8 ↑b.toNat), Bn .or 5 (.tmp 22) (.tmp 23) (Value.int .u8 bt) (Value.int .u8 ↑b.toNat) (Value.int .u8 (or8 bt ↑b.toNat)), GlIx ↑b.toNat 256, GlIs Gx 0 ((Int.toNat ↑b.toNat) * 1) (Value.int .u8 1), Bn .add 3 (.tmp 29) (.tmp 33) (vi n) (vi 0) (vi n), Bn .add 3 (.tmp 17) (.const (vi 1)) (vi ↑i) (vi 1) (vi (↑(i + 1)))]) (by kernel_rfl)
  ⟨bin_ilt (b := 267) (decide_eq_true (by omega)), ix_b hb, or_u8 _ _, u8ix b, glT' (by have := b.toNat_lt; omega) hs, bin_iadd (by omega) (by omega) (by omega), bin_iadd (by omega) (by omega) (by omega), trivial⟩
theorem s1_10 {i : Nat} {b : UInt8} {n bt : Int} (hb : namesB[i]? = some b) (hi : i < 267) (h0 : 0 ≤ n) (h1 : n ≤ 1000) (hs : spB b.toNat = 0) : Tri EX bd1 (st1 i n 1 bt) .nxt (st1 (i + 1) (n + 1) 0 (or8 bt b.toNat)) :=
  twalk (c := subC (bodyOf Tryz.f41) [1,1,1,1,0,1,0,0]) (s := st1 i n 1 bt) (an := [.no, yT, .av (.dt (.val (.int .u8 b.toNat))), .av (.dt (.val (.int .u8 (or8 bt b.toNat)))), .av (.un), .av (.dt (.val (.int .u8 0))), .no, .no, .av (inA (n + 1)), .av (inA (i + 1 : Nat))]) (ls := []) (ft := [0, 2, 3, 4, 5, 6]) (nb := 0) (e := .nxt) (s' := st1 (i + 1) (n + 1) 0 (or8 bt b.toNat)) (ps := [Bn .lss 3 (.tmp 13) (.tmp 15) (vi ↑i) (vi 267) bT, IxS ({ data := namesB.toArray : ByteArray }) ↑i (Value.int .u8 ↑b.toNat), Bn .or 5 (.tmp 22) (.tmp 23) (Value.int .u8 bt) (Value.int .u8 ↑b.toNat) (Value.int .u8 (or8 bt ↑b.toNat)), GlIx ↑b.toNat 256, GlIs Gx 0 ((Int.toNat ↑b.toNat) * 1) (Value.int .u8 0), Bn .add 3 (.tmp 29) (.tmp 33) (vi n) (vi 1) (vi (n + 1)), Bn .add 3 (.tmp 17) (.const (vi 1)) (vi ↑i) (vi 1) (vi (↑(i + 1)))]) (by kernel_rfl)
  ⟨bin_ilt (b := 267) (decide_eq_true (by omega)), ix_b hb, or_u8 _ _, u8ix b, glT' (by have := b.toNat_lt; omega) hs, bin_iadd (by omega) (by omega) (by omega), bin_iadd (by omega) (by omega) (by omega), trivial⟩
theorem s1_11 {i : Nat} {b : UInt8} {n bt : Int} (hb : namesB[i]? = some b) (hi : i < 267) (h0 : 0 ≤ n) (h1 : n ≤ 1000) (hs : spB b.toNat = 1) : Tri EX bd1 (st1 i n 1 bt) .nxt (st1 (i + 1) n 1 (or8 bt b.toNat)) :=
  twalk (c := subC (bodyOf Tryz.f41) [1,1,1,1,0,1,0,0]) (s := st1 i n 1 bt) (an := [.no, yT, .av (.dt (.val (.int .u8 b.toNat))), .av (.dt (.val (.int .u8 (or8 bt b.toNat)))), .av (.un), .av (.dt (.val (.int .u8 1))), .no, .no, .av (inA n), .av (inA (i + 1 : Nat))]) (ls := []) (ft := [0, 2, 3, 4, 5, 6]) (nb := 0) (e := .nxt) (s' := st1 (i + 1) n 1 (or8 bt b.toNat)) (ps := [Bn .lss 3 (.tmp 13) (.tmp 15) (vi ↑i) (vi 267) bT, IxS ({ data := namesB.toArray : ByteArray }) ↑i (Value.int .u8 ↑b.toNat), Bn .or 5 (.tmp 22) (.tmp 23) (Value.int .u8 bt) (Value.int .u8 ↑b.toNat) (Value.int .u8 (or8 bt ↑b.toNat)), GlIx ↑b.toNat 256, GlIs Gx 0 ((Int.toNat ↑b.toNat) * 1) (Value.int .u8 1), Bn .add 3 (.tmp 29) (.tmp 33) (vi n) (vi 0) (vi n), Bn .add 3 (.tmp 17) (.const (vi 1)) (vi ↑i) (vi 1) (vi (↑(i + 1)))]) (by kernel_rfl)
  ⟨bin_ilt (b := 267) (decide_eq_true (by omega)), ix_b hb, or_u8 _ _, u8ix b, glT' (by have := b.toNat_lt; omega) hs, bin_iadd (by omega) (by omega) (by omega), bin_iadd (by omega) (by omega) (by omega), trivial⟩
theorem s1_x {n ws bt : Int} : Tri EX bd1 (st1 267 n ws bt) (.out 0) (st1x n ws bt) :=
  twalk (c := subC (bodyOf Tryz.f41) [1,1,1,1,0,1,0,0]) (s := st1 267 n ws bt) (an := []) (ls := []) (ft := [0, 2, 3, 4, 5]) (nb := 0) (e := .out 0) (s' := st1x n ws bt) (ps := []) (by kernel_rfl) trivial
theorem s3_a {i n f : Nat} {ws : List (List UInt8)} {b : UInt8} (hb : namesB[i]? = some b) (hi : i < 267) (hs : spB b.toNat = 0) : Tri EX bd3 (st3 i n f ws) .nxt (st3 (i + 1) n f ws) :=
  twalk (c := subC (bodyOf Tryz.f41) [1,1,1,1,1,1,1,1,1,1,1,1,0,0,0]) (s := st3 i n f ws) (an := [.no, yT, .av (.dt (.val (.int .u8 b.toNat))), .av (.un), .av (.dt (.val (.int .u8 0))), .no, .av (inA (i + 1 : Nat))]) (ls := []) (ft := [0, 2, 9, 10, 11, 12]) (nb := 1) (e := .nxt) (s' := st3 (i + 1) n f ws) (ps := [Bn .lss 3 (.tmp 57) (.tmp 59) (vi ↑i) (vi 267) bT, IxS ({ data := namesB.toArray : ByteArray }) ↑i (Value.int .u8 ↑b.toNat), GlIx ↑b.toNat 256, GlIs Gx 0 ((Int.toNat ↑b.toNat) * 1) (Value.int .u8 0), Bn .add 3 (.tmp 67) (.const (vi 1)) (vi ↑i) (vi 1) (vi (↑(i + 1)))]) (by kernel_rfl)
  ⟨bin_ilt (b := 267) (decide_eq_true (by omega)), ix_b hb, u8ix b, glT' (by have := b.toNat_lt; omega) hs, bin_iadd (by omega) (by omega) (by omega), trivial⟩
theorem s3_b {i n f : Nat} {ws : List (List UInt8)} {b b2 : UInt8} {wd : List UInt8} (hb : namesB[i]? = some b) (hb2 : namesB[i + 1]? = some b2) (hi : i < 266) (hs : spB b.toNat = 1) (hs2 : spB b2.toNat = 0) (hn : n < 50) (hw : ws.length = 50) (hwd : SlcS ⟨namesB.toArray⟩ (f : Int) (i : Int) (str wd)) : Tri EX bd3 (st3 i n f ws) .nxt (st3 (i + 1) (n + 1) (i + 1) (ws.set n wd)) := by
  have e : (ws.map wrow).set n (wrow wd) = (ws.set n wd).map wrow := by rw [List.map_set]
  unfold st3 rowsF
  rw [← e]
  exact twalk (c := subC (bodyOf Tryz.f41) [1,1,1,1,1,1,1,1,1,1,1,1,0,0,0]) (s := st3 i n f ws) (an := [.no, yT, .av (.dt (.val (.int .u8 b.toNat))), .av (.un), .av (.dt (.val (.int .u8 1))), .no, .av (.dt (.val (str wd))), .av (.un), .av (inA (n + 1 : Nat)), .av (inA (i + 1 : Nat)), .no, yT, .av (.dt (.val (.int .u8 b2.toNat))), .av (.un), .av (.dt (.val (.int .u8 0)))]) (ls := []) (ft := [0, 2, 9, 10, 11, 12]) (nb := 1) (e := .nxt) (s' := ⟨stt 106 [(0, stA namesB), (2, .nil), (9, .sl 0 50), (10, inA (n + 1 : Nat)), (11, inA (i + 1 : Nat)), (12, inA (i + 1 : Nat))], [some (.rws 9 1 ((ws.map wrow).set n (wrow wd)))]⟩) (ps := [Bn .lss 3 (.tmp 57) (.tmp 59) (vi ↑i) (vi 267) bT, IxS ({ data := namesB.toArray : ByteArray }) ↑i (Value.int .u8 ↑b.toNat), GlIx ↑b.toNat 256, GlIs Gx 0 ((Int.toNat ↑b.toNat) * 1) (Value.int .u8 1), SlcS ({ data := namesB.toArray : ByteArray }) ((some ↑f).getD 0) ((some ↑i).getD ↑{ data := namesB.toArray : ByteArray }.size) (str wd), ((0 : Int) ≤ ↑n) ∧ ((↑n : Int) < 50), (Int.toNat ↑n) < ((List.map wrow ws).length), Bn .add 3 (.tmp 76) (.const (vi 1)) (vi ↑n) (vi 1) (vi (↑(n + 1))), Bn .add 3 (.tmp 78) (.const (vi 1)) (vi ↑i) (vi 1) (vi (↑(i + 1))), Bn .lss 3 (.tmp 80) (.tmp 82) (vi (↑(i + 1))) (vi 267) bT, IxS ({ data := namesB.toArray : ByteArray }) (↑(i + 1)) (Value.int .u8 ↑b2.toNat), GlIx ↑b2.toNat 256, GlIs Gx 0 ((Int.toNat ↑b2.toNat) * 1) (Value.int .u8 0)]) (by kernel_rfl)
    ⟨bin_ilt (b := 267) (decide_eq_true (by omega)), ix_b hb, u8ix b, glT' (by have := b.toNat_lt; omega) hs, hwd, ⟨by omega, by omega⟩, by simp [hw]; omega, bin_iadd (by omega) (by omega) (by omega), bin_iadd (by omega) (by omega) (by omega), bin_ilt (b := 267) (decide_eq_true (by omega)), ix_b hb2, u8ix b2, glT' (by have := b2.toNat_lt; omega) hs2, trivial⟩
/-- what the first loop has come to -/
def f1 : List UInt8 → Int × Int × Int → Int × Int × Int
  | [], p => p
  | b :: r, (n, ws, bt) => f1 r (match spB b.toNat == 0 && ws == 1 with | true => n + 1 | false => n, match spB b.toNat == 0 with | true => 0 | false => 1, or8 bt b.toNat)
theorem sp01 (i : Nat) : spB i = 0 ∨ spB i = 1 := by
  unfold spB
  split
  · exact .inr rfl
  · exact .inl rfl
theorem len_names : namesB.length = 267 := by decide +kernel
theorem dropnil {α : Type} {l : List α} {i : Nat} (h : l.drop i = []) : l.length ≤ i := by
  have := congrArg List.length h
  rw [List.length_drop, List.length_nil] at this
  omega
theorem dropcons {α : Type} {l r : List α} {i : Nat} {b : α} (h : l.drop i = b :: r) : l[i]? = some b ∧ l.drop (i + 1) = r ∧ i < l.length := by
  have h1 : (l.drop i)[0]? = some b := by rw [h]; rfl
  rw [List.getElem?_drop, Nat.add_zero] at h1
  exact ⟨h1, by rw [← List.drop_drop, h]; rfl, (List.getElem?_eq_some_iff.1 h1).1⟩
theorem loop1 : ∀ (r : List UInt8) (i : Nat) (n ws bt : Int), namesB.drop i = r → i ≤ 267 → 0 ≤ n → n ≤ i → (ws = 0 ∨ ws = 1) → Lps EX bd1 (st1 i n ws bt) (.out 0) (st1x (f1 r (n, ws, bt)).1 (f1 r (n, ws, bt)).2.1 (f1 r (n, ws, bt)).2.2)
  | [], i, n, ws, bt, hr, hi, h0, h1, hw => by
    have := dropnil hr
    rw [len_names] at this
    obtain rfl : i = 267 := by omega
    exact .stop s1_x (fun h => by cases h)
  | b :: r, i, n, ws, bt, hr, hi, h0, h1, hw => by
    obtain ⟨hb, hr', hlt⟩ := dropcons hr
    rw [len_names] at hlt
    rcases sp01 b.toNat with hs | hs <;> rcases hw with rfl | rfl
    · have e : f1 (b :: r) (n, 0, bt) = f1 r (n, 0, or8 bt b.toNat) := by rw [f1, hs]; rfl
      rw [e]
      exact .more (s1_00 hb hlt h0 (by omega) hs) (loop1 r (i + 1) n 0 _ hr' (by omega) h0 (by omega) (.inl rfl))
    · have e : f1 (b :: r) (n, 1, bt) = f1 r (n + 1, 0, or8 bt b.toNat) := by rw [f1, hs]; rfl
      rw [e]
      exact .more (s1_10 hb hlt h0 (by omega) hs) (loop1 r (i + 1) (n + 1) 0 _ hr' (by omega) (by omega) (by omega) (.inl rfl))
    · have e : f1 (b :: r) (n, 0, bt) = f1 r (n, 1, or8 bt b.toNat) := by rw [f1, hs]; rfl
      rw [e]
      exact .more (s1_01 hb hlt h0 (by omega) hs) (loop1 r (i + 1) n 1 _ hr' (by omega) h0 (by omega) (.inr rfl))
    · have e : f1 (b :: r) (n, 1, bt) = f1 r (n, 1, or8 bt b.toNat) := by rw [f1, hs]; rfl
      rw [e]
      exact .more (s1_11 hb hlt h0 (by omega) hs) (loop1 r (i + 1) n 1 _ hr' (by omega) h0 (by omega) (.inr rfl))
theorem f1_names : f1 namesB (0, 1, 0) = (50, 0, 127) := by decide +kernel
theorem loop1' : Tri EX (.loop bd1) (st1 0 0 1 0) (.out 0) (st1x 50 0 127) := by
  have := (loop1 namesB 0 0 1 0 rfl (by decide) (by decide) (by decide) (.inr rfl)).tri
  rwa [f1_names] at this
/-- one word more -/
def f3 : List UInt8 → Nat × Nat × Nat × List (List UInt8) → Nat × Nat × Nat × List (List UInt8)
  | [], p => p
  | b :: r, (i, n, f, ws) => f3 r (match spB b.toNat == 0 with | true => (i + 1, n, f, ws) | false => (i + 1, n + 1, i + 1, ws.set n ((namesB.drop f).take (i - f))))
/-- the text goes well from here -/
def ok3 : List UInt8 → Nat × Nat × Nat × List (List UInt8) → Bool
  | [], _ => true
  | b :: r, (i, n, f, ws) => match spB b.toNat == 0 with
    | true => ok3 r (i + 1, n, f, ws)
    | false => (match r with | b2 :: _ => spB b2.toNat == 0 | [] => false) && decide (n < 50) && decide (f ≤ i) && ok3 r (i + 1, n + 1, i + 1, ws.set n ((namesB.drop f).take (i - f)))
theorem s3_x {n f : Nat} {ws : List (List UInt8)} : Tri EX bd3 (st3 267 n f ws) (.out 4) (st3x n f ws) :=
  twalk (c := subC (bodyOf Tryz.f41) [1,1,1,1,1,1,1,1,1,1,1,1,0,0,0]) (s := st3 267 n f ws) (an := []) (ls := []) (ft := [0, 2, 9, 10, 11]) (nb := 1) (e := .out 4) (s' := st3x n f ws) (ps := []) (by kernel_rfl) trivial
theorem loop3 : ∀ (r : List UInt8) (i n f : Nat) (ws : List (List UInt8)), namesB.drop i = r → i ≤ 267 → ws.length = 50 → ok3 r (i, n, f, ws) = true → Lps EX bd3 (st3 i n f ws) (.out 4) (st3x (f3 r (i, n, f, ws)).2.1 (f3 r (i, n, f, ws)).2.2.1 (f3 r (i, n, f, ws)).2.2.2)
  | [], i, n, f, ws, hr, hi, hw, ho => by
    have := dropnil hr
    rw [len_names] at this
    obtain rfl : i = 267 := by omega
    exact .stop s3_x (fun h => by cases h)
  | b :: r, i, n, f, ws, hr, hi, hw, ho => by
    obtain ⟨hb, hr', hlt⟩ := dropcons hr
    rw [len_names] at hlt
    rcases sp01 b.toNat with hs | hs
    · have e : f3 (b :: r) (i, n, f, ws) = f3 r (i + 1, n, f, ws) := by rw [f3, hs]; rfl
      have o : ok3 r (i + 1, n, f, ws) = true := by unfold ok3 at ho; rw [hs] at ho; exact ho
      rw [e]
      exact .more (s3_a hb hlt hs) (loop3 r (i + 1) n f ws hr' (by omega) hw o)
    · have e : f3 (b :: r) (i, n, f, ws) = f3 r (i + 1, n + 1, i + 1, ws.set n ((namesB.drop f).take (i - f))) := by rw [f3, hs]; rfl
      unfold ok3 at ho
      rw [hs] at ho
      rw [e]
      match r, hr', ho with
      | [], _, ho => cases ho
      | b2 :: r, hr', ho =>
        have ho' : (spB b2.toNat == 0 && decide (n < 50) && decide (f ≤ i) && ok3 (b2 :: r) (i + 1, n + 1, i + 1, ws.set n ((namesB.drop f).take (i - f)))) = true := ho
        simp only [Bool.and_eq_true, decide_eq_true_eq] at ho'
        obtain ⟨hb2, _, hlt2⟩ := dropcons hr'
        rw [len_names] at hlt2
        refine .more (s3_b (wd := (namesB.drop f).take (i - f)) hb hb2 (by omega) hs (by simpa using ho'.1.1.1) ho'.1.1.2 hw ⟨by omega, by omega, ?_, ?_⟩) (loop3 (b2 :: r) (i + 1) (n + 1) (i + 1) _ hr' (by omega) (by rw [List.length_set]; exact hw) ho'.2)
        · show (i : Int) ≤ ((namesB.length : Nat) : Int)
          rw [len_names]; omega
        · rw [Lib.extract_eq]
          rfl
theorem f3_names : f3 namesB (0, 0, 0, List.replicate 50 []) = (267, 49, 266, wordL.take 49 ++ [[]]) := by decide +kernel
theorem ok3_names : ok3 namesB (0, 0, 0, List.replicate 50 []) = true := by decide +kernel
theorem loop3' : Tri EX (.loop bd3) (st3 0 0 0 (List.replicate 50 [])) (.out 4) (st3x 49 266 (wordL.take 49 ++ [[]])) := by
  have := (loop3 namesB 0 0 0 (List.replicate 50 []) rfl (by decide) (by decide) ok3_names).tri
  rwa [f3_names] at this
theorem p_fields : Puk 41 [stA namesB] (.dt (.row (wordL.map wrow))) :=
  pwalk (an := []) (ls := [.inv [0, 2, 3, 4, 5, 6] 0 ((.out 0)) ((st1x 50 0 127)), .run 3, .inv [0, 2, 9, 10, 11, 12] 1 ((.out 4)) ((st3x 49 266 (wordL.take 49 ++ [[]])))]) (ps := [Tri EX (.loop (subC (bodyOf Tryz.f41) [1,1,1,1,0,1,0,0])) (st1 0 0 1 0) ((.out 0)) ((st1x 50 0 127)), ((Int.ofNat (49 + 1)) = (Int.ofNat (49 + 1))) ∧ (((Int.ofNat 50) = (Int.ofNat (49 + 1))) ∧ (FitM 16 50)), Tri EX (.loop (subC (bodyOf Tryz.f41) [1,1,1,1,1,1,1,1,1,1,1,1,0,0,0])) (st3 0 0 0 (List.replicate 50 [])) ((.out 4)) ((st3x 49 266 (wordL.take 49 ++ [[]]))), (Int.toNat 49) < ((List.map wrow (List.take 49 wordL ++ [[]])).length), 50 = 50]) Tryz.func41 (by kernel_rfl) (by kernel_rfl) ⟨loop1', ⟨rfl, rfl, by decide, by decide, by decide⟩, loop3', by decide, rfl, trivial⟩
end Go.Proofs.YtmkcnjfhdfanoaaGreatDoor
/- The names and arities of the primitives, in both texts. -/
namespace Go.Proofs.YtmkcnjfhdfanoaaGreatDoor
open Go.RowKit

theorem RV.sy {M : Mm} {w : World} {p n : List UInt8} {v : Value} (h : RV M w (syA p n) v) : v = .agg #[str p, str n] := by
  obtain ⟨vs, rfl, u0, _, rfl, h0, u1, _, rfl, h1, rfl⟩ := h
  rw [Rd.val_eq h0, Rd.val_eq h1]
theorem rv_sy (M : Mm) (w : World) (p n : List UInt8) : RV M w (syA p n) (.agg #[str p, str n]) := ⟨_, rfl, _, _, rfl, .val _, _, _, rfl, .val _, rfl⟩
theorem p_lisp (n : List UInt8) : Puk 33 [stA n] (syA lispB n) :=
  ⟨fnm Tryz.func33 rfl (by kernel_rfl), fun ok w vs ht hv => by
    obtain rfl := hv.one_val
    refine (rLisp_any n w).mono ?_
    rintro e w' ⟨rfl, h2⟩
    exact ⟨_, rfl, h2, rv_sy _ _ _ _⟩⟩
theorem p_mod (n m : Int) (hm : 0 < m) (hm1 : m ≤ 1000000) : Puk 34 [inA n, inA m] (inA (n % m)) :=
  ⟨fnm Tryz.func34 rfl (by kernel_rfl), fun ok w vs ht hv => by
    obtain ⟨u, us, rfl, h1, h2⟩ := hv
    obtain rfl := RL.one_val h2
    rw [Rd.val_eq h1]
    refine (mod_any n m w hm hm1).mono ?_
    rintro e w' ⟨rfl, rfl⟩
    exact ⟨_, rfl, Below.refl _ _, .val _⟩⟩
set_option maxRecDepth 100000 in
theorem p_oNames : Puk 13 [] (.dt (.row (primL.map srow))) := pwalk (an := [.av (.dt (.row (wordL.map wrow)))]) (ls := []) (ps := [Puk 41 [(stA ((([105, 102, 32, 51, 32, 101, 113, 117, 97, 108, 32, 50, 32, 99, 111, 110, 115, 32, 50, 32, 99, 97, 114, 32, 49, 32, 99, 100, 114, 32, 49, 32, 99].append [111, 110, 115, 112, 32, 49, 32, 115, 121, 109, 98, 111, 108, 112, 32, 49, 32, 115, 116, 114, 105, 110, 103, 112, 32, 49, 32, 114, 97, 116, 105, 111, 110]).append ([97, 108, 112, 32, 49, 32, 105, 110, 116, 101, 103, 101, 114, 112, 32, 49, 32, 98, 105, 110, 97, 114, 121, 45, 43, 32, 50, 32, 98, 105, 110, 97, 114].append [121, 45, 42, 32, 50, 32, 117, 110, 97, 114, 121, 45, 45, 32, 49, 32, 117, 110, 97, 114, 121, 45, 47, 32, 49, 32, 60, 32, 50, 32, 110, 117, 109, 101])).append (([114, 97, 116, 111, 114, 32, 49, 32, 100, 101, 110, 111, 109, 105, 110, 97, 116, 111, 114, 32, 49, 32, 102, 108, 111, 111, 114, 32, 49, 32, 115, 121, 109].append [98, 111, 108, 45, 110, 97, 109, 101, 32, 49, 32, 115, 121, 109, 98, 111, 108, 45, 112, 97, 99, 107, 97, 103, 101, 45, 110, 97, 109, 101, 32, 49, 32, 105]).append ([110, 116, 101, 114, 110, 32, 50, 32, 115, 116, 114, 105, 110, 103, 45, 97, 112, 112, 101, 110, 100, 32, 50, 32, 115, 116, 114, 105, 110, 103, 45, 108, 101].append [110, 103, 116, 104, 32, 49, 32, 115, 116, 114, 105, 110, 103, 45, 98, 121, 116, 101, 32, 50, 32, 98, 121, 116, 101, 45, 115, 116, 114, 105, 110, 103, 32, 49]))))] (.dt (.row (List.map wrow wordL))), 25 = 25]) Tryz.func13 (by kernel_rfl) (by kernel_rfl) ⟨p_fields, by decide +kernel, trivial⟩
theorem p_rows : Puk 42 [] (.dt (.row (primL.map rrow))) := pwalk (an := []) (ls := []) (ps := []) Tryz.func42 (by kernel_rfl) (by kernel_rfl) trivial
theorem p_rNames : Puk 14 [] (.dt (.row (primL.map srow))) := pwalk (an := [.av (.dt (.row (primL.map rrow))), .no, .no, .no, .av (syA lispB [105, 102]), .no, .no, .no, .no, .no, .av (syA lispB [101, 113, 117, 97, 108]), .no, .no, .no, .no, .no, .av (syA lispB [99, 111, 110, 115]), .no, .no, .no, .no, .no, .av (syA lispB [99, 97, 114]), .no, .no, .no, .no, .no, .av (syA lispB [99, 100, 114]), .no, .no, .no, .no, .no, .av (syA lispB [99, 111, 110, 115, 112]), .no, .no, .no, .no, .no, .av (syA lispB [115, 121, 109, 98, 111, 108, 112]), .no, .no, .no, .no, .no, .av (syA lispB [115, 116, 114, 105, 110, 103, 112]), .no, .no, .no, .no, .no, .av (syA lispB [114, 97, 116, 105, 111, 110, 97, 108, 112]), .no, .no, .no, .no, .no, .av (syA lispB [105, 110, 116, 101, 103, 101, 114, 112]), .no, .no, .no, .no, .no, .av (syA lispB [98, 105, 110, 97, 114, 121, 45, 43]), .no, .no, .no, .no, .no, .av (syA lispB [98, 105, 110, 97, 114, 121, 45, 42]), .no, .no, .no, .no, .no, .av (syA lispB [117, 110, 97, 114, 121, 45, 45]), .no, .no, .no, .no, .no, .av (syA lispB [117, 110, 97, 114, 121, 45, 47]), .no, .no, .no, .no, .no, .av (syA lispB [60]), .no, .no, .no, .no, .no, .av (syA lispB [110, 117, 109, 101, 114, 97, 116, 111, 114]), .no, .no, .no, .no, .no, .av (syA lispB [100, 101, 110, 111, 109, 105, 110, 97, 116, 111, 114]), .no, .no, .no, .no, .no, .av (syA lispB [102, 108, 111, 111, 114]), .no, .no, .no, .no, .no, .av (syA lispB [115, 121, 109, 98, 111, 108, 45, 110, 97, 109, 101]), .no, .no, .no, .no, .no, .av (syA lispB [115, 121, 109, 98, 111, 108, 45, 112, 97, 99, 107, 97, 103, 101, 45, 110, 97, 109, 101]), .no, .no, .no, .no, .no, .av (syA lispB [105, 110, 116, 101, 114, 110]), .no, .no, .no, .no, .no, .av (syA lispB [115, 116, 114, 105, 110, 103, 45, 97, 112, 112, 101, 110, 100]), .no, .no, .no, .no, .no, .av (syA lispB [115, 116, 114, 105, 110, 103, 45, 108, 101, 110, 103, 116, 104]), .no, .no, .no, .no, .no, .av (syA lispB [115, 116, 114, 105, 110, 103, 45, 98, 121, 116, 101]), .no, .no, .no, .no, .no, .av (syA lispB [98, 121, 116, 101, 45, 115, 116, 114, 105, 110, 103]), .no, .no]) (ls := []) (ps := [Puk 42 [] (.dt (.row (List.map rrow primL))), Puk 33 [(stA ([105, 102], 3).fst)] (syA lispB [105, 102]), Puk 33 [(stA ([101, 113, 117, 97, 108], 2).fst)] (syA lispB [101, 113, 117, 97, 108]), Puk 33 [(stA ([99, 111, 110, 115], 2).fst)] (syA lispB [99, 111, 110, 115]), Puk 33 [(stA ([99, 97, 114], 1).fst)] (syA lispB [99, 97, 114]), Puk 33 [(stA ([99, 100, 114], 1).fst)] (syA lispB [99, 100, 114]), Puk 33 [(stA ([99, 111, 110, 115, 112], 1).fst)] (syA lispB [99, 111, 110, 115, 112]), Puk 33 [(stA ([115, 121, 109, 98, 111, 108, 112], 1).fst)] (syA lispB [115, 121, 109, 98, 111, 108, 112]), Puk 33 [(stA ([115, 116, 114, 105, 110, 103, 112], 1).fst)] (syA lispB [115, 116, 114, 105, 110, 103, 112]), Puk 33 [(stA ([114, 97, 116, 105, 111, 110, 97, 108, 112], 1).fst)] (syA lispB [114, 97, 116, 105, 111, 110, 97, 108, 112]), Puk 33 [(stA ([105, 110, 116, 101, 103, 101, 114, 112], 1).fst)] (syA lispB [105, 110, 116, 101, 103, 101, 114, 112]), Puk 33 [(stA ([98, 105, 110, 97, 114, 121, 45, 43], 2).fst)] (syA lispB [98, 105, 110, 97, 114, 121, 45, 43]), Puk 33 [(stA ([98, 105, 110, 97, 114, 121, 45, 42], 2).fst)] (syA lispB [98, 105, 110, 97, 114, 121, 45, 42]), Puk 33 [(stA ([117, 110, 97, 114, 121, 45, 45], 1).fst)] (syA lispB [117, 110, 97, 114, 121, 45, 45]), Puk 33 [(stA ([117, 110, 97, 114, 121, 45, 47], 1).fst)] (syA lispB [117, 110, 97, 114, 121, 45, 47]), Puk 33 [(stA ([60], 2).fst)] (syA lispB [60]), Puk 33 [(stA ([110, 117, 109, 101, 114, 97, 116, 111, 114], 1).fst)] (syA lispB [110, 117, 109, 101, 114, 97, 116, 111, 114]), Puk 33 [(stA ([100, 101, 110, 111, 109, 105, 110, 97, 116, 111, 114], 1).fst)] (syA lispB [100, 101, 110, 111, 109, 105, 110, 97, 116, 111, 114]), Puk 33 [(stA ([102, 108, 111, 111, 114], 1).fst)] (syA lispB [102, 108, 111, 111, 114]), Puk 33 [(stA ([115, 121, 109, 98, 111, 108, 45, 110, 97, 109, 101], 1).fst)] (syA lispB [115, 121, 109, 98, 111, 108, 45, 110, 97, 109, 101]), Puk 33 [(stA ([115, 121, 109, 98, 111, 108, 45, 112, 97, 99, 107, 97, 103, 101, 45, 110, 97, 109, 101], 1).fst)] (syA lispB [115, 121, 109, 98, 111, 108, 45, 112, 97, 99, 107, 97, 103, 101, 45, 110, 97, 109, 101]), Puk 33 [(stA ([105, 110, 116, 101, 114, 110], 2).fst)] (syA lispB [105, 110, 116, 101, 114, 110]), Puk 33 [(stA ([115, 116, 114, 105, 110, 103, 45, 97, 112, 112, 101, 110, 100], 2).fst)] (syA lispB [115, 116, 114, 105, 110, 103, 45, 97, 112, 112, 101, 110, 100]), Puk 33 [(stA ([115, 116, 114, 105, 110, 103, 45, 108, 101, 110, 103, 116, 104], 1).fst)] (syA lispB [115, 116, 114, 105, 110, 103, 45, 108, 101, 110, 103, 116, 104]), Puk 33 [(stA ([115, 116, 114, 105, 110, 103, 45, 98, 121, 116, 101], 2).fst)] (syA lispB [115, 116, 114, 105, 110, 103, 45, 98, 121, 116, 101]), Puk 33 [(stA ([98, 121, 116, 101, 45, 115, 116, 114, 105, 110, 103], 1).fst)] (syA lispB [98, 121, 116, 101, 45, 115, 116, 114, 105, 110, 103]), 25 = 25]) Tryz.func14 (by kernel_rfl) (by kernel_rfl) ⟨p_rows, p_lisp _, p_lisp _, p_lisp _, p_lisp _, p_lisp _, p_lisp _, p_lisp _, p_lisp _, p_lisp _, p_lisp _, p_lisp _, p_lisp _, p_lisp _, p_lisp _, p_lisp _, p_lisp _, p_lisp _, p_lisp _, p_lisp _, p_lisp _, p_lisp _, p_lisp _, p_lisp _, p_lisp _, p_lisp _, by decide +kernel, trivial⟩
theorem p_oAr0 : Puk 15 [syA lispB [105, 102]] (.tup [inA 3, boA true]) := pwalk (an := []) (ls := []) (ps := []) Tryz.func15 (by kernel_rfl) (by kernel_rfl) trivial
theorem p_oAr1 : Puk 15 [syA lispB [101, 113, 117, 97, 108]] (.tup [inA 2, boA true]) := pwalk (an := []) (ls := []) (ps := []) Tryz.func15 (by kernel_rfl) (by kernel_rfl) trivial
theorem p_oAr2 : Puk 15 [syA lispB [99, 111, 110, 115]] (.tup [inA 2, boA true]) := pwalk (an := []) (ls := []) (ps := []) Tryz.func15 (by kernel_rfl) (by kernel_rfl) trivial
theorem p_oAr3 : Puk 15 [syA lispB [99, 97, 114]] (.tup [inA 1, boA true]) := pwalk (an := []) (ls := []) (ps := []) Tryz.func15 (by kernel_rfl) (by kernel_rfl) trivial
theorem p_oAr4 : Puk 15 [syA lispB [99, 100, 114]] (.tup [inA 1, boA true]) := pwalk (an := []) (ls := []) (ps := []) Tryz.func15 (by kernel_rfl) (by kernel_rfl) trivial
theorem p_oAr5 : Puk 15 [syA lispB [99, 111, 110, 115, 112]] (.tup [inA 1, boA true]) := pwalk (an := []) (ls := []) (ps := []) Tryz.func15 (by kernel_rfl) (by kernel_rfl) trivial
theorem p_oAr6 : Puk 15 [syA lispB [115, 121, 109, 98, 111, 108, 112]] (.tup [inA 1, boA true]) := pwalk (an := []) (ls := []) (ps := []) Tryz.func15 (by kernel_rfl) (by kernel_rfl) trivial
theorem p_oAr7 : Puk 15 [syA lispB [115, 116, 114, 105, 110, 103, 112]] (.tup [inA 1, boA true]) := pwalk (an := []) (ls := []) (ps := []) Tryz.func15 (by kernel_rfl) (by kernel_rfl) trivial
theorem p_oAr8 : Puk 15 [syA lispB [114, 97, 116, 105, 111, 110, 97, 108, 112]] (.tup [inA 1, boA true]) := pwalk (an := []) (ls := []) (ps := []) Tryz.func15 (by kernel_rfl) (by kernel_rfl) trivial
theorem p_oAr9 : Puk 15 [syA lispB [105, 110, 116, 101, 103, 101, 114, 112]] (.tup [inA 1, boA true]) := pwalk (an := []) (ls := []) (ps := []) Tryz.func15 (by kernel_rfl) (by kernel_rfl) trivial
theorem p_oAr10 : Puk 15 [syA lispB [98, 105, 110, 97, 114, 121, 45, 43]] (.tup [inA 2, boA true]) := pwalk (an := []) (ls := []) (ps := []) Tryz.func15 (by kernel_rfl) (by kernel_rfl) trivial
theorem p_oAr11 : Puk 15 [syA lispB [98, 105, 110, 97, 114, 121, 45, 42]] (.tup [inA 2, boA true]) := pwalk (an := []) (ls := []) (ps := []) Tryz.func15 (by kernel_rfl) (by kernel_rfl) trivial
theorem p_oAr12 : Puk 15 [syA lispB [117, 110, 97, 114, 121, 45, 45]] (.tup [inA 1, boA true]) := pwalk (an := []) (ls := []) (ps := []) Tryz.func15 (by kernel_rfl) (by kernel_rfl) trivial
theorem p_oAr13 : Puk 15 [syA lispB [117, 110, 97, 114, 121, 45, 47]] (.tup [inA 1, boA true]) := pwalk (an := []) (ls := []) (ps := []) Tryz.func15 (by kernel_rfl) (by kernel_rfl) trivial
theorem p_oAr14 : Puk 15 [syA lispB [60]] (.tup [inA 2, boA true]) := pwalk (an := []) (ls := []) (ps := []) Tryz.func15 (by kernel_rfl) (by kernel_rfl) trivial
theorem p_oAr15 : Puk 15 [syA lispB [110, 117, 109, 101, 114, 97, 116, 111, 114]] (.tup [inA 1, boA true]) := pwalk (an := []) (ls := []) (ps := []) Tryz.func15 (by kernel_rfl) (by kernel_rfl) trivial
theorem p_oAr16 : Puk 15 [syA lispB [100, 101, 110, 111, 109, 105, 110, 97, 116, 111, 114]] (.tup [inA 1, boA true]) := pwalk (an := []) (ls := []) (ps := []) Tryz.func15 (by kernel_rfl) (by kernel_rfl) trivial
theorem p_oAr17 : Puk 15 [syA lispB [102, 108, 111, 111, 114]] (.tup [inA 1, boA true]) := pwalk (an := []) (ls := []) (ps := []) Tryz.func15 (by kernel_rfl) (by kernel_rfl) trivial
theorem p_oAr18 : Puk 15 [syA lispB [115, 121, 109, 98, 111, 108, 45, 110, 97, 109, 101]] (.tup [inA 1, boA true]) := pwalk (an := []) (ls := []) (ps := []) Tryz.func15 (by kernel_rfl) (by kernel_rfl) trivial
theorem p_oAr19 : Puk 15 [syA lispB [115, 121, 109, 98, 111, 108, 45, 112, 97, 99, 107, 97, 103, 101, 45, 110, 97, 109, 101]] (.tup [inA 1, boA true]) := pwalk (an := []) (ls := []) (ps := []) Tryz.func15 (by kernel_rfl) (by kernel_rfl) trivial
theorem p_oAr20 : Puk 15 [syA lispB [105, 110, 116, 101, 114, 110]] (.tup [inA 2, boA true]) := pwalk (an := []) (ls := []) (ps := []) Tryz.func15 (by kernel_rfl) (by kernel_rfl) trivial
theorem p_oAr21 : Puk 15 [syA lispB [115, 116, 114, 105, 110, 103, 45, 97, 112, 112, 101, 110, 100]] (.tup [inA 2, boA true]) := pwalk (an := []) (ls := []) (ps := []) Tryz.func15 (by kernel_rfl) (by kernel_rfl) trivial
theorem p_oAr22 : Puk 15 [syA lispB [115, 116, 114, 105, 110, 103, 45, 108, 101, 110, 103, 116, 104]] (.tup [inA 1, boA true]) := pwalk (an := []) (ls := []) (ps := []) Tryz.func15 (by kernel_rfl) (by kernel_rfl) trivial
theorem p_oAr23 : Puk 15 [syA lispB [115, 116, 114, 105, 110, 103, 45, 98, 121, 116, 101]] (.tup [inA 2, boA true]) := pwalk (an := []) (ls := []) (ps := []) Tryz.func15 (by kernel_rfl) (by kernel_rfl) trivial
theorem p_oAr24 : Puk 15 [syA lispB [98, 121, 116, 101, 45, 115, 116, 114, 105, 110, 103]] (.tup [inA 1, boA true]) := pwalk (an := []) (ls := []) (ps := []) Tryz.func15 (by kernel_rfl) (by kernel_rfl) trivial
theorem p_oArP {p n : List UInt8} (hp : p ≠ lispB) : Puk 15 [syA p n] (.tup [inA 0, boA false]) := pwalk (an := [yT]) (ls := []) (ps := [Bn .neq 9 (.tmp 5) (.const (Value.string { data := #[108, 105, 115, 112] : ByteArray })) (str p) (str [108, 105, 115, 112]) bT]) Tryz.func15 (by kernel_rfl) (by kernel_rfl) ⟨bin_sne (decide_eq_false hp), trivial⟩
theorem p_rArP {p n : List UInt8} (hp : p ≠ lispB) : Puk 16 [syA p n] (.tup [inA 0, boA false]) := pwalk (an := [yT]) (ls := []) (ps := [Bn .neq 9 (.tmp 7) (.const (Value.string { data := #[108, 105, 115, 112] : ByteArray })) (str p) (str [108, 105, 115, 112]) bT]) Tryz.func16 (by kernel_rfl) (by kernel_rfl) ⟨bin_sne (decide_eq_false hp), trivial⟩
theorem p_oArU {n : List UInt8} (hn : ∀ x ∈ primL, n ≠ x.1) : Puk 15 [syA lispB n] (.tup [inA 0, boA false]) := pwalk (an := [.no, yF, yF, yF, yF, yF, yF, yF, yF, yF, yF, yF, yF, yF, yF, yF, yF, yF, yF, yF, yF, yF, yF, yF, yF, yF]) (ls := []) (ps := [Bn .eql 9 (.tmp 8) (.const (Value.string { data := #[105, 102] : ByteArray })) (str n) (str [105, 102]) bF, Bn .eql 9 (.tmp 8) (.const (Value.string { data := #[101, 113, 117, 97, 108] : ByteArray })) (str n) (str [101, 113, 117, 97, 108]) bF, Bn .eql 9 (.tmp 8) (.const (Value.string { data := #[99, 111, 110, 115] : ByteArray })) (str n) (str [99, 111, 110, 115]) bF, Bn .eql 9 (.tmp 8) (.const (Value.string { data := #[98, 105, 110, 97, 114, 121, 45, 43] : ByteArray })) (str n) (str [98, 105, 110, 97, 114, 121, 45, 43]) bF, Bn .eql 9 (.tmp 8) (.const (Value.string { data := #[98, 105, 110, 97, 114, 121, 45, 42] : ByteArray })) (str n) (str [98, 105, 110, 97, 114, 121, 45, 42]) bF, Bn .eql 9 (.tmp 8) (.const (Value.string { data := #[60] : ByteArray })) (str n) (str [60]) bF, Bn .eql 9 (.tmp 8) (.const (Value.string { data := #[105, 110, 116, 101, 114, 110] : ByteArray })) (str n) (str [105, 110, 116, 101, 114, 110]) bF, Bn .eql 9 (.tmp 8) (.const (Value.string { data := #[115, 116, 114, 105, 110, 103, 45, 97, 112, 112, 101, 110, 100] : ByteArray })) (str n) (str [115, 116, 114, 105, 110, 103, 45, 97, 112, 112, 101, 110, 100]) bF, Bn .eql 9 (.tmp 8) (.const (Value.string { data := #[115, 116, 114, 105, 110, 103, 45, 98, 121, 116, 101] : ByteArray })) (str n) (str [115, 116, 114, 105, 110, 103, 45, 98, 121, 116, 101]) bF, Bn .eql 9 (.tmp 8) (.const (Value.string { data := #[99, 97, 114] : ByteArray })) (str n) (str [99, 97, 114]) bF, Bn .eql 9 (.tmp 8) (.const (Value.string { data := #[99, 100, 114] : ByteArray })) (str n) (str [99, 100, 114]) bF, Bn .eql 9 (.tmp 8) (.const (Value.string { data := #[99, 111, 110, 115, 112] : ByteArray })) (str n) (str [99, 111, 110, 115, 112]) bF, Bn .eql 9 (.tmp 8) (.const (Value.string { data := #[115, 121, 109, 98, 111, 108, 112] : ByteArray })) (str n) (str [115, 121, 109, 98, 111, 108, 112]) bF, Bn .eql 9 (.tmp 8) (.const (Value.string { data := #[115, 116, 114, 105, 110, 103, 112] : ByteArray })) (str n) (str [115, 116, 114, 105, 110, 103, 112]) bF, Bn .eql 9 (.tmp 8) (.const (Value.string { data := #[114, 97, 116, 105, 111, 110, 97, 108, 112] : ByteArray })) (str n) (str [114, 97, 116, 105, 111, 110, 97, 108, 112]) bF, Bn .eql 9 (.tmp 8) (.const (Value.string { data := #[105, 110, 116, 101, 103, 101, 114, 112] : ByteArray })) (str n) (str [105, 110, 116, 101, 103, 101, 114, 112]) bF, Bn .eql 9 (.tmp 8) (.const (Value.string { data := #[117, 110, 97, 114, 121, 45, 45] : ByteArray })) (str n) (str [117, 110, 97, 114, 121, 45, 45]) bF, Bn .eql 9 (.tmp 8) (.const (Value.string { data := #[117, 110, 97, 114, 121, 45, 47] : ByteArray })) (str n) (str [117, 110, 97, 114, 121, 45, 47]) bF, Bn .eql 9 (.tmp 8) (.const (Value.string { data := #[110, 117, 109, 101, 114, 97, 116, 111, 114] : ByteArray })) (str n) (str [110, 117, 109, 101, 114, 97, 116, 111, 114]) bF, Bn .eql 9 (.tmp 8) (.const (Value.string { data := #[100, 101, 110, 111, 109, 105, 110, 97, 116, 111, 114] : ByteArray })) (str n) (str [100, 101, 110, 111, 109, 105, 110, 97, 116, 111, 114]) bF, Bn .eql 9 (.tmp 8) (.const (Value.string { data := #[102, 108, 111, 111, 114] : ByteArray })) (str n) (str [102, 108, 111, 111, 114]) bF, Bn .eql 9 (.tmp 8) (.const (Value.string { data := #[115, 121, 109, 98, 111, 108, 45, 110, 97, 109, 101] : ByteArray })) (str n) (str [115, 121, 109, 98, 111, 108, 45, 110, 97, 109, 101]) bF, Bn .eql 9 (.tmp 8) (.const (Value.string { data := #[115, 121, 109, 98, 111, 108, 45, 112, 97, 99, 107, 97, 103, 101, 45, 110, 97, 109, 101] : ByteArray })) (str n) (str [115, 121, 109, 98, 111, 108, 45, 112, 97, 99, 107, 97, 103, 101, 45, 110, 97, 109, 101]) bF, Bn .eql 9 (.tmp 8) (.const (Value.string { data := #[115, 116, 114, 105, 110, 103, 45, 108, 101, 110, 103, 116, 104] : ByteArray })) (str n) (str [115, 116, 114, 105, 110, 103, 45, 108, 101, 110, 103, 116, 104]) bF, Bn .eql 9 (.tmp 8) (.const (Value.string { data := #[98, 121, 116, 101, 45, 115, 116, 114, 105, 110, 103] : ByteArray })) (str n) (str [98, 121, 116, 101, 45, 115, 116, 114, 105, 110, 103]) bF]) Tryz.func15 (by kernel_rfl) (by kernel_rfl) ⟨bin_seq (decide_eq_false (hn ([105, 102], 3) (by decide))), bin_seq (decide_eq_false (hn ([101, 113, 117, 97, 108], 2) (by decide))), bin_seq (decide_eq_false (hn ([99, 111, 110, 115], 2) (by decide))), bin_seq (decide_eq_false (hn ([98, 105, 110, 97, 114, 121, 45, 43], 2) (by decide))), bin_seq (decide_eq_false (hn ([98, 105, 110, 97, 114, 121, 45, 42], 2) (by decide))), bin_seq (decide_eq_false (hn ([60], 2) (by decide))), bin_seq (decide_eq_false (hn ([105, 110, 116, 101, 114, 110], 2) (by decide))), bin_seq (decide_eq_false (hn ([115, 116, 114, 105, 110, 103, 45, 97, 112, 112, 101, 110, 100], 2) (by decide))), bin_seq (decide_eq_false (hn ([115, 116, 114, 105, 110, 103, 45, 98, 121, 116, 101], 2) (by decide))), bin_seq (decide_eq_false (hn ([99, 97, 114], 1) (by decide))), bin_seq (decide_eq_false (hn ([99, 100, 114], 1) (by decide))), bin_seq (decide_eq_false (hn ([99, 111, 110, 115, 112], 1) (by decide))), bin_seq (decide_eq_false (hn ([115, 121, 109, 98, 111, 108, 112], 1) (by decide))), bin_seq (decide_eq_false (hn ([115, 116, 114, 105, 110, 103, 112], 1) (by decide))), bin_seq (decide_eq_false (hn ([114, 97, 116, 105, 111, 110, 97, 108, 112], 1) (by decide))), bin_seq (decide_eq_false (hn ([105, 110, 116, 101, 103, 101, 114, 112], 1) (by decide))), bin_seq (decide_eq_false (hn ([117, 110, 97, 114, 121, 45, 45], 1) (by decide))), bin_seq (decide_eq_false (hn ([117, 110, 97, 114, 121, 45, 47], 1) (by decide))), bin_seq (decide_eq_false (hn ([110, 117, 109, 101, 114, 97, 116, 111, 114], 1) (by decide))), bin_seq (decide_eq_false (hn ([100, 101, 110, 111, 109, 105, 110, 97, 116, 111, 114], 1) (by decide))), bin_seq (decide_eq_false (hn ([102, 108, 111, 111, 114], 1) (by decide))), bin_seq (decide_eq_false (hn ([115, 121, 109, 98, 111, 108, 45, 110, 97, 109, 101], 1) (by decide))), bin_seq (decide_eq_false (hn ([115, 121, 109, 98, 111, 108, 45, 112, 97, 99, 107, 97, 103, 101, 45, 110, 97, 109, 101], 1) (by decide))), bin_seq (decide_eq_false (hn ([115, 116, 114, 105, 110, 103, 45, 108, 101, 110, 103, 116, 104], 1) (by decide))), bin_seq (decide_eq_false (hn ([98, 121, 116, 101, 45, 115, 116, 114, 105, 110, 103], 1) (by decide))), trivial⟩
theorem p_rArU {n : List UInt8} (hn : ∀ x ∈ primL, n ≠ x.1) : Puk 16 [syA lispB n] (.tup [inA 0, boA false]) := pwalk (an := [.no, .av (.dt (.row (primL.map rrow))), .no, .no, .no, yF, .no, .no, .no, .no, yF, .no, .no, .no, .no, yF, .no, .no, .no, .no, yF, .no, .no, .no, .no, yF, .no, .no, .no, .no, yF, .no, .no, .no, .no, yF, .no, .no, .no, .no, yF, .no, .no, .no, .no, yF, .no, .no, .no, .no, yF, .no, .no, .no, .no, yF, .no, .no, .no, .no, yF, .no, .no, .no, .no, yF, .no, .no, .no, .no, yF, .no, .no, .no, .no, yF, .no, .no, .no, .no, yF, .no, .no, .no, .no, yF, .no, .no, .no, .no, yF, .no, .no, .no, .no, yF, .no, .no, .no, .no, yF, .no, .no, .no, .no, yF, .no, .no, .no, .no, yF, .no, .no, .no, .no, yF, .no, .no, .no, .no, yF, .no, .no, .no, .no, yF, .no]) (ls := []) (ps := [Puk 42 [] (.dt (.row (List.map rrow primL))), Bn .eql 9 (.tmp 20) (.tmp 22) (str ([105, 102], 3).fst) (str n) bF, Bn .eql 9 (.tmp 20) (.tmp 22) (str ([101, 113, 117, 97, 108], 2).fst) (str n) bF, Bn .eql 9 (.tmp 20) (.tmp 22) (str ([99, 111, 110, 115], 2).fst) (str n) bF, Bn .eql 9 (.tmp 20) (.tmp 22) (str ([99, 97, 114], 1).fst) (str n) bF, Bn .eql 9 (.tmp 20) (.tmp 22) (str ([99, 100, 114], 1).fst) (str n) bF, Bn .eql 9 (.tmp 20) (.tmp 22) (str ([99, 111, 110, 115, 112], 1).fst) (str n) bF, Bn .eql 9 (.tmp 20) (.tmp 22) (str ([115, 121, 109, 98, 111, 108, 112], 1).fst) (str n) bF, Bn .eql 9 (.tmp 20) (.tmp 22) (str ([115, 116, 114, 105, 110, 103, 112], 1).fst) (str n) bF, Bn .eql 9 (.tmp 20) (.tmp 22) (str ([114, 97, 116, 105, 111, 110, 97, 108, 112], 1).fst) (str n) bF, Bn .eql 9 (.tmp 20) (.tmp 22) (str ([105, 110, 116, 101, 103, 101, 114, 112], 1).fst) (str n) bF, Bn .eql 9 (.tmp 20) (.tmp 22) (str ([98, 105, 110, 97, 114, 121, 45, 43], 2).fst) (str n) bF, Bn .eql 9 (.tmp 20) (.tmp 22) (str ([98, 105, 110, 97, 114, 121, 45, 42], 2).fst) (str n) bF, Bn .eql 9 (.tmp 20) (.tmp 22) (str ([117, 110, 97, 114, 121, 45, 45], 1).fst) (str n) bF, Bn .eql 9 (.tmp 20) (.tmp 22) (str ([117, 110, 97, 114, 121, 45, 47], 1).fst) (str n) bF, Bn .eql 9 (.tmp 20) (.tmp 22) (str ([60], 2).fst) (str n) bF, Bn .eql 9 (.tmp 20) (.tmp 22) (str ([110, 117, 109, 101, 114, 97, 116, 111, 114], 1).fst) (str n) bF, Bn .eql 9 (.tmp 20) (.tmp 22) (str ([100, 101, 110, 111, 109, 105, 110, 97, 116, 111, 114], 1).fst) (str n) bF, Bn .eql 9 (.tmp 20) (.tmp 22) (str ([102, 108, 111, 111, 114], 1).fst) (str n) bF, Bn .eql 9 (.tmp 20) (.tmp 22) (str ([115, 121, 109, 98, 111, 108, 45, 110, 97, 109, 101], 1).fst) (str n) bF, Bn .eql 9 (.tmp 20) (.tmp 22) (str ([115, 121, 109, 98, 111, 108, 45, 112, 97, 99, 107, 97, 103, 101, 45, 110, 97, 109, 101], 1).fst) (str n) bF, Bn .eql 9 (.tmp 20) (.tmp 22) (str ([105, 110, 116, 101, 114, 110], 2).fst) (str n) bF, Bn .eql 9 (.tmp 20) (.tmp 22) (str ([115, 116, 114, 105, 110, 103, 45, 97, 112, 112, 101, 110, 100], 2).fst) (str n) bF, Bn .eql 9 (.tmp 20) (.tmp 22) (str ([115, 116, 114, 105, 110, 103, 45, 108, 101, 110, 103, 116, 104], 1).fst) (str n) bF, Bn .eql 9 (.tmp 20) (.tmp 22) (str ([115, 116, 114, 105, 110, 103, 45, 98, 121, 116, 101], 2).fst) (str n) bF, Bn .eql 9 (.tmp 20) (.tmp 22) (str ([98, 121, 116, 101, 45, 115, 116, 114, 105, 110, 103], 1).fst) (str n) bF]) Tryz.func16 (by kernel_rfl) (by kernel_rfl) ⟨p_rows, bin_seq (decide_eq_false (Ne.symm (hn ([105, 102], 3) (by decide)))), bin_seq (decide_eq_false (Ne.symm (hn ([101, 113, 117, 97, 108], 2) (by decide)))), bin_seq (decide_eq_false (Ne.symm (hn ([99, 111, 110, 115], 2) (by decide)))), bin_seq (decide_eq_false (Ne.symm (hn ([99, 97, 114], 1) (by decide)))), bin_seq (decide_eq_false (Ne.symm (hn ([99, 100, 114], 1) (by decide)))), bin_seq (decide_eq_false (Ne.symm (hn ([99, 111, 110, 115, 112], 1) (by decide)))), bin_seq (decide_eq_false (Ne.symm (hn ([115, 121, 109, 98, 111, 108, 112], 1) (by decide)))), bin_seq (decide_eq_false (Ne.symm (hn ([115, 116, 114, 105, 110, 103, 112], 1) (by decide)))), bin_seq (decide_eq_false (Ne.symm (hn ([114, 97, 116, 105, 111, 110, 97, 108, 112], 1) (by decide)))), bin_seq (decide_eq_false (Ne.symm (hn ([105, 110, 116, 101, 103, 101, 114, 112], 1) (by decide)))), bin_seq (decide_eq_false (Ne.symm (hn ([98, 105, 110, 97, 114, 121, 45, 43], 2) (by decide)))), bin_seq (decide_eq_false (Ne.symm (hn ([98, 105, 110, 97, 114, 121, 45, 42], 2) (by decide)))), bin_seq (decide_eq_false (Ne.symm (hn ([117, 110, 97, 114, 121, 45, 45], 1) (by decide)))), bin_seq (decide_eq_false (Ne.symm (hn ([117, 110, 97, 114, 121, 45, 47], 1) (by decide)))), bin_seq (decide_eq_false (Ne.symm (hn ([60], 2) (by decide)))), bin_seq (decide_eq_false (Ne.symm (hn ([110, 117, 109, 101, 114, 97, 116, 111, 114], 1) (by decide)))), bin_seq (decide_eq_false (Ne.symm (hn ([100, 101, 110, 111, 109, 105, 110, 97, 116, 111, 114], 1) (by decide)))), bin_seq (decide_eq_false (Ne.symm (hn ([102, 108, 111, 111, 114], 1) (by decide)))), bin_seq (decide_eq_false (Ne.symm (hn ([115, 121, 109, 98, 111, 108, 45, 110, 97, 109, 101], 1) (by decide)))), bin_seq (decide_eq_false (Ne.symm (hn ([115, 121, 109, 98, 111, 108, 45, 112, 97, 99, 107, 97, 103, 101, 45, 110, 97, 109, 101], 1) (by decide)))), bin_seq (decide_eq_false (Ne.symm (hn ([105, 110, 116, 101, 114, 110], 2) (by decide)))), bin_seq (decide_eq_false (Ne.symm (hn ([115, 116, 114, 105, 110, 103, 45, 97, 112, 112, 101, 110, 100], 2) (by decide)))), bin_seq (decide_eq_false (Ne.symm (hn ([115, 116, 114, 105, 110, 103, 45, 108, 101, 110, 103, 116, 104], 1) (by decide)))), bin_seq (decide_eq_false (Ne.symm (hn ([115, 116, 114, 105, 110, 103, 45, 98, 121, 116, 101], 2) (by decide)))), bin_seq (decide_eq_false (Ne.symm (hn ([98, 121, 116, 101, 45, 115, 116, 114, 105, 110, 103], 1) (by decide)))), trivial⟩
theorem p_rAr0 : Puk 16 [syA lispB [105, 102]] (.tup [inA 3, boA true]) := pwalk (an := [.no, .av (.dt (.row (primL.map rrow)))]) (ls := []) (ps := [Puk 42 [] (.dt (.row (List.map rrow primL)))]) Tryz.func16 (by kernel_rfl) (by kernel_rfl) ⟨p_rows, trivial⟩
theorem p_rAr1 : Puk 16 [syA lispB [101, 113, 117, 97, 108]] (.tup [inA 2, boA true]) := pwalk (an := [.no, .av (.dt (.row (primL.map rrow)))]) (ls := []) (ps := [Puk 42 [] (.dt (.row (List.map rrow primL)))]) Tryz.func16 (by kernel_rfl) (by kernel_rfl) ⟨p_rows, trivial⟩
theorem p_rAr2 : Puk 16 [syA lispB [99, 111, 110, 115]] (.tup [inA 2, boA true]) := pwalk (an := [.no, .av (.dt (.row (primL.map rrow)))]) (ls := []) (ps := [Puk 42 [] (.dt (.row (List.map rrow primL)))]) Tryz.func16 (by kernel_rfl) (by kernel_rfl) ⟨p_rows, trivial⟩
theorem p_rAr3 : Puk 16 [syA lispB [99, 97, 114]] (.tup [inA 1, boA true]) := pwalk (an := [.no, .av (.dt (.row (primL.map rrow)))]) (ls := []) (ps := [Puk 42 [] (.dt (.row (List.map rrow primL)))]) Tryz.func16 (by kernel_rfl) (by kernel_rfl) ⟨p_rows, trivial⟩
theorem p_rAr4 : Puk 16 [syA lispB [99, 100, 114]] (.tup [inA 1, boA true]) := pwalk (an := [.no, .av (.dt (.row (primL.map rrow)))]) (ls := []) (ps := [Puk 42 [] (.dt (.row (List.map rrow primL)))]) Tryz.func16 (by kernel_rfl) (by kernel_rfl) ⟨p_rows, trivial⟩
theorem p_rAr5 : Puk 16 [syA lispB [99, 111, 110, 115, 112]] (.tup [inA 1, boA true]) := pwalk (an := [.no, .av (.dt (.row (primL.map rrow)))]) (ls := []) (ps := [Puk 42 [] (.dt (.row (List.map rrow primL)))]) Tryz.func16 (by kernel_rfl) (by kernel_rfl) ⟨p_rows, trivial⟩
theorem p_rAr6 : Puk 16 [syA lispB [115, 121, 109, 98, 111, 108, 112]] (.tup [inA 1, boA true]) := pwalk (an := [.no, .av (.dt (.row (primL.map rrow)))]) (ls := []) (ps := [Puk 42 [] (.dt (.row (List.map rrow primL)))]) Tryz.func16 (by kernel_rfl) (by kernel_rfl) ⟨p_rows, trivial⟩
theorem p_rAr7 : Puk 16 [syA lispB [115, 116, 114, 105, 110, 103, 112]] (.tup [inA 1, boA true]) := pwalk (an := [.no, .av (.dt (.row (primL.map rrow)))]) (ls := []) (ps := [Puk 42 [] (.dt (.row (List.map rrow primL)))]) Tryz.func16 (by kernel_rfl) (by kernel_rfl) ⟨p_rows, trivial⟩
theorem p_rAr8 : Puk 16 [syA lispB [114, 97, 116, 105, 111, 110, 97, 108, 112]] (.tup [inA 1, boA true]) := pwalk (an := [.no, .av (.dt (.row (primL.map rrow)))]) (ls := []) (ps := [Puk 42 [] (.dt (.row (List.map rrow primL)))]) Tryz.func16 (by kernel_rfl) (by kernel_rfl) ⟨p_rows, trivial⟩
theorem p_rAr9 : Puk 16 [syA lispB [105, 110, 116, 101, 103, 101, 114, 112]] (.tup [inA 1, boA true]) := pwalk (an := [.no, .av (.dt (.row (primL.map rrow)))]) (ls := []) (ps := [Puk 42 [] (.dt (.row (List.map rrow primL)))]) Tryz.func16 (by kernel_rfl) (by kernel_rfl) ⟨p_rows, trivial⟩
theorem p_rAr10 : Puk 16 [syA lispB [98, 105, 110, 97, 114, 121, 45, 43]] (.tup [inA 2, boA true]) := pwalk (an := [.no, .av (.dt (.row (primL.map rrow)))]) (ls := []) (ps := [Puk 42 [] (.dt (.row (List.map rrow primL)))]) Tryz.func16 (by kernel_rfl) (by kernel_rfl) ⟨p_rows, trivial⟩
theorem p_rAr11 : Puk 16 [syA lispB [98, 105, 110, 97, 114, 121, 45, 42]] (.tup [inA 2, boA true]) := pwalk (an := [.no, .av (.dt (.row (primL.map rrow)))]) (ls := []) (ps := [Puk 42 [] (.dt (.row (List.map rrow primL)))]) Tryz.func16 (by kernel_rfl) (by kernel_rfl) ⟨p_rows, trivial⟩
theorem p_rAr12 : Puk 16 [syA lispB [117, 110, 97, 114, 121, 45, 45]] (.tup [inA 1, boA true]) := pwalk (an := [.no, .av (.dt (.row (primL.map rrow)))]) (ls := []) (ps := [Puk 42 [] (.dt (.row (List.map rrow primL)))]) Tryz.func16 (by kernel_rfl) (by kernel_rfl) ⟨p_rows, trivial⟩
theorem p_rAr13 : Puk 16 [syA lispB [117, 110, 97, 114, 121, 45, 47]] (.tup [inA 1, boA true]) := pwalk (an := [.no, .av (.dt (.row (primL.map rrow)))]) (ls := []) (ps := [Puk 42 [] (.dt (.row (List.map rrow primL)))]) Tryz.func16 (by kernel_rfl) (by kernel_rfl) ⟨p_rows, trivial⟩
theorem p_rAr14 : Puk 16 [syA lispB [60]] (.tup [inA 2, boA true]) := pwalk (an := [.no, .av (.dt (.row (primL.map rrow)))]) (ls := []) (ps := [Puk 42 [] (.dt (.row (List.map rrow primL)))]) Tryz.func16 (by kernel_rfl) (by kernel_rfl) ⟨p_rows, trivial⟩
theorem p_rAr15 : Puk 16 [syA lispB [110, 117, 109, 101, 114, 97, 116, 111, 114]] (.tup [inA 1, boA true]) := pwalk (an := [.no, .av (.dt (.row (primL.map rrow)))]) (ls := []) (ps := [Puk 42 [] (.dt (.row (List.map rrow primL)))]) Tryz.func16 (by kernel_rfl) (by kernel_rfl) ⟨p_rows, trivial⟩
theorem p_rAr16 : Puk 16 [syA lispB [100, 101, 110, 111, 109, 105, 110, 97, 116, 111, 114]] (.tup [inA 1, boA true]) := pwalk (an := [.no, .av (.dt (.row (primL.map rrow)))]) (ls := []) (ps := [Puk 42 [] (.dt (.row (List.map rrow primL)))]) Tryz.func16 (by kernel_rfl) (by kernel_rfl) ⟨p_rows, trivial⟩
theorem p_rAr17 : Puk 16 [syA lispB [102, 108, 111, 111, 114]] (.tup [inA 1, boA true]) := pwalk (an := [.no, .av (.dt (.row (primL.map rrow)))]) (ls := []) (ps := [Puk 42 [] (.dt (.row (List.map rrow primL)))]) Tryz.func16 (by kernel_rfl) (by kernel_rfl) ⟨p_rows, trivial⟩
theorem p_rAr18 : Puk 16 [syA lispB [115, 121, 109, 98, 111, 108, 45, 110, 97, 109, 101]] (.tup [inA 1, boA true]) := pwalk (an := [.no, .av (.dt (.row (primL.map rrow)))]) (ls := []) (ps := [Puk 42 [] (.dt (.row (List.map rrow primL)))]) Tryz.func16 (by kernel_rfl) (by kernel_rfl) ⟨p_rows, trivial⟩
theorem p_rAr19 : Puk 16 [syA lispB [115, 121, 109, 98, 111, 108, 45, 112, 97, 99, 107, 97, 103, 101, 45, 110, 97, 109, 101]] (.tup [inA 1, boA true]) := pwalk (an := [.no, .av (.dt (.row (primL.map rrow)))]) (ls := []) (ps := [Puk 42 [] (.dt (.row (List.map rrow primL)))]) Tryz.func16 (by kernel_rfl) (by kernel_rfl) ⟨p_rows, trivial⟩
theorem p_rAr20 : Puk 16 [syA lispB [105, 110, 116, 101, 114, 110]] (.tup [inA 2, boA true]) := pwalk (an := [.no, .av (.dt (.row (primL.map rrow)))]) (ls := []) (ps := [Puk 42 [] (.dt (.row (List.map rrow primL)))]) Tryz.func16 (by kernel_rfl) (by kernel_rfl) ⟨p_rows, trivial⟩
theorem p_rAr21 : Puk 16 [syA lispB [115, 116, 114, 105, 110, 103, 45, 97, 112, 112, 101, 110, 100]] (.tup [inA 2, boA true]) := pwalk (an := [.no, .av (.dt (.row (primL.map rrow)))]) (ls := []) (ps := [Puk 42 [] (.dt (.row (List.map rrow primL)))]) Tryz.func16 (by kernel_rfl) (by kernel_rfl) ⟨p_rows, trivial⟩
theorem p_rAr22 : Puk 16 [syA lispB [115, 116, 114, 105, 110, 103, 45, 108, 101, 110, 103, 116, 104]] (.tup [inA 1, boA true]) := pwalk (an := [.no, .av (.dt (.row (primL.map rrow)))]) (ls := []) (ps := [Puk 42 [] (.dt (.row (List.map rrow primL)))]) Tryz.func16 (by kernel_rfl) (by kernel_rfl) ⟨p_rows, trivial⟩
theorem p_rAr23 : Puk 16 [syA lispB [115, 116, 114, 105, 110, 103, 45, 98, 121, 116, 101]] (.tup [inA 2, boA true]) := pwalk (an := [.no, .av (.dt (.row (primL.map rrow)))]) (ls := []) (ps := [Puk 42 [] (.dt (.row (List.map rrow primL)))]) Tryz.func16 (by kernel_rfl) (by kernel_rfl) ⟨p_rows, trivial⟩
theorem p_rAr24 : Puk 16 [syA lispB [98, 121, 116, 101, 45, 115, 116, 114, 105, 110, 103]] (.tup [inA 1, boA true]) := pwalk (an := [.no, .av (.dt (.row (primL.map rrow)))]) (ls := []) (ps := [Puk 42 [] (.dt (.row (List.map rrow primL)))]) Tryz.func16 (by kernel_rfl) (by kernel_rfl) ⟨p_rows, trivial⟩
theorem pick_get (n : Int) : primL[(n % 25).toNat]? = some (pickN n) := by
  have h : (n % 25).toNat < primL.length := by show (n % 25).toNat < 25; omega
  unfold pickN
  rw [List.getD_eq_getElem?_getD, List.getElem?_eq_getElem h]
  rfl
theorem pick_mem (n : Int) : pickN n ∈ primL := List.mem_of_getElem? (pick_get n)
theorem p_pick (n : Int) : Puk 17 [inA n] (syA lispB (pickN n).1) :=
  pwalk (an := [.av (.dt (.row (primL.map srow))), .no, .av (inA (n % 25)), .av (.pin [.dt (.val (str lispB)), .dt (.val (str (pickN n).1))])]) (ls := []) (ps := [Puk 14 [] (.dt (.row (List.map srow primL))), Puk 34 [(inA n), (inA 25)] (inA (n % 25)), IxAt (List.map srow primL) (n % 25) 2 ([(.val (str lispB)), (.val (str (pickN n).fst))])]) Tryz.func17 (by kernel_rfl) (by kernel_rfl) ⟨p_rNames, p_mod n 25 (by decide) (by decide), ⟨by omega, by rw [List.getElem?_map, pick_get]; rfl, rfl⟩, trivial⟩
end Go.Proofs.YtmkcnjfhdfanoaaGreatDoor
/- Arithmetic of objects, as plain walks. -/
namespace Go.Proofs.YtmkcnjfhdfanoaaGreatDoor
open Go.RowKit

theorem pk_s {f : FuncId} (hf : Fn f) {a r : List UInt8} (h : ∀ w, Tab w → Calls Tryz.prog f #[str a] w (RetStr r w)) : Puk f [stA a] (stA r) :=
  ⟨hf, fun ok w vs ht hv => by
    obtain rfl := hv.one_val
    exact (h w ht.1).mono fun _ _ ⟨h1, h2⟩ => ⟨_, h1, h2, .val _⟩⟩
theorem pk_ss {f : FuncId} (hf : Fn f) {a b r : List UInt8} (h : ∀ w, Tab w → Calls Tryz.prog f #[str a, str b] w (RetStr r w)) : Puk f [stA a, stA b] (stA r) :=
  ⟨hf, fun ok w vs ht hv => by
    obtain ⟨u, us, rfl, h1, h2⟩ := hv
    obtain rfl := RL.one_val h2
    rw [Rd.val_eq h1]
    exact (h w ht.1).mono fun _ _ ⟨h1, h2⟩ => ⟨_, h1, h2, .val _⟩⟩
section
variable {a b : List UInt8} {x y : Int} (ha : Dec.dval a = x) (hb : Dec.dval b = y) (la : a.length ≤ 2500000) (lb : b.length ≤ 2500000)
include ha hb la lb
theorem p_oMulS : Puk 86 [stA a, stA b] (stA (Lib.itoa (x * y))) :=
  pk_ss (fnm Tryz.func86 rfl (by kernel_rfl)) fun w ht => by rw [← ha, ← hb]; exact mulN_any a b w la lb ht
theorem p_oAddS : Puk 84 [stA a, stA b] (stA (Lib.itoa (x + y))) :=
  pk_ss (fnm Tryz.func84 rfl (by kernel_rfl)) fun w ht => by rw [← ha, ← hb]; exact addN_any a b w la lb ht
theorem p_rMulS : Puk 146 [stA a, stA b] (stA (Lib.itoa (x * y))) :=
  pk_ss (fnm Tryz.func146 rfl (by kernel_rfl)) fun w _ => by rw [← ha, ← hb]; exact refMul_any a b w la lb
theorem p_rAddS : Puk 145 [stA a, stA b] (stA (Lib.itoa (x + y))) :=
  pk_ss (fnm Tryz.func145 rfl (by kernel_rfl)) fun w _ => by rw [← ha, ← hb]; exact refAdd_any a b w la lb
end
theorem p_oNegS {a : List UInt8} {x : Int} (ha : Dec.dval a = x) (la : a.length ≤ 2500000) : Puk 134 [stA a] (stA (Lib.itoa (-x))) :=
  pk_s (fnm Tryz.func134 rfl (by kernel_rfl)) fun w _ => by
    rw [← ha]
    exact (negate_any a w la).mono fun _ _ ⟨h1, h2⟩ => ⟨h1, by rw [← h2]; exact Below.refl _ _⟩
theorem p_rNegS {a : List UInt8} {x : Int} (ha : Dec.dval a = x) (la : a.length ≤ 2500000) : Puk 142 [stA a] (stA (Lib.itoa (-x))) :=
  pk_s (fnm Tryz.func142 rfl (by kernel_rfl)) fun w _ => by rw [← ha]; exact refNegate_any a w la
theorem p_rRat {a b : List UInt8} (ha : a.length ≤ 1100000) (hb : b.length ≤ 1100000) : Puk 35 [stA a, stA b] (trA (.num (Rat.divInt (Dec.dval a) (Dec.dval b)))) :=
  ⟨fnm Tryz.func35 rfl (by kernel_rfl), fun ok w vs ht hv => by
    obtain ⟨u, us, rfl, h1, h2⟩ := hv
    obtain rfl := RL.one_val h2
    rw [Rd.val_eq h1]
    exact (rRationalQ a b w ha hb).mono fun _ _ h => RetLeaf.pure (r := ratO (Rat.divInt (Dec.dval a) (Dec.dval b))) rfl h⟩
theorem p_oRat {a b : List UInt8} (ha : a.length ≤ 1100000) (hb : b.length ≤ 1100000) : Puk 85 [stA a, stA b] (trA (.num (Rat.divInt (Dec.dval a) (Dec.dval b)))) :=
  ⟨fnm Tryz.func85 rfl (by kernel_rfl), fun ok w vs ht hv => by
    obtain ⟨u, us, rfl, h1, h2⟩ := hv
    obtain rfl := RL.one_val h2
    rw [Rd.val_eq h1]
    exact (oRationalQ a b w ha hb ht.1).mono fun _ _ h => RetLeaf.pure (r := ratO (Rat.divInt (Dec.dval a) (Dec.dval b))) rfl h⟩
theorem p_rFix (t : Tr) : Puk 101 [trA t] (trA (.num t.val)) :=
  ⟨fnm Tryz.func101 rfl (by kernel_rfl), fun ok w vs ht hv => by
    obtain ⟨A, n, c, rfl, hr⟩ := hv.one_obj
    have e1 := hr.len
    rw [List.length_map] at e1
    exact (rFix_any t.ob t.val t.val_ob A n c e1 w ht.1).mono fun _ _ => RetNum.pure⟩
theorem p_oFixO (t : Tr) : Puk 82 [trA t] (trA (.num t.val)) :=
  ⟨fnm Tryz.func82 rfl (by kernel_rfl), fun ok w vs ht hv => by
    obtain ⟨A, n, c, rfl, hr⟩ := hv.one_obj
    have e1 := hr.len
    rw [List.length_map] at e1
    exact (oFix_any t.ob t.val t.val_ob A n c e1 w ht.1).mono fun _ _ => RetNum.pure⟩
theorem p_oIntS (a : List UInt8) : Puk 83 [stA a] (obA (numO a [49])) :=
  ⟨fnm Tryz.func83 rfl (by kernel_rfl), fun ok w vs ht hv => by
    obtain rfl := hv.one_val
    exact (oInteger_any a w).mono fun _ _ h => RetLeaf.pure (r := numO a [49]) rfl h⟩
theorem p_oValQ {p q : Rat} {k : Nat} (bp : Rb k p) (bq : Rb k q) (hk : k ≤ 10000) : Puk 93 [trA (.num p), trA (.num q)] (inA (cmpQ p q)) :=
  ⟨fnm Tryz.func93 rfl (by kernel_rfl), fun ok w vs ht hv => by
    obtain ⟨A, n, c, A', n', c', rfl, hr, hr'⟩ := hv.two_obj
    have e1 := hr.len
    have e2 := hr'.len
    obtain rfl : n = 0 := e1.symm
    obtain rfl : n' = 0 := e2.symm
    exact (oValue_any p q bp bq hk hk A A' 0 0 c c' w ht.1).mono fun _ _ ⟨h1, h2⟩ => ⟨_, h1, h2, .val _⟩⟩
section
variable {a b : Tr} {p q r : Rat} {m n d : List UInt8} {k : Nat}
theorem w_rProd (f1 : Puk 101 [trA a] (trA (.num p))) (f2 : Puk 101 [trA b] (trA (.num q))) (m1 : Puk 146 [stA (Tr.num p).ob.num, stA (Tr.num q).ob.num] (stA m)) (m2 : Puk 146 [stA (Tr.num p).ob.den, stA (Tr.num q).ob.den] (stA d)) (r1 : Puk 35 [stA m, stA d] (trA (.num r))) : Puk 109 [trA a, trA b] (trA (.num r)) :=
  pwalk (an := [.av (trA (.num p)), .av (trA (.num q)), .av (stA m), .av (stA d), .av (trA (.num r))]) (ls := []) (ps := [Puk 101 [(obA a.ob)] (trA (Tr.num p)), Puk 101 [(obA b.ob)] (trA (Tr.num q)), Puk 146 [(stA (Tr.num p).ob.num), (stA (Tr.num q).ob.num)] (stA m), Puk 146 [(stA (Tr.num p).ob.den), (stA (Tr.num q).ob.den)] (stA d), Puk 35 [(stA m), (stA d)] (trA (Tr.num r))]) Tryz.func109 (by kernel_rfl) (by kernel_rfl) ⟨f1, f2, m1, m2, r1, trivial⟩
theorem w_oProd (f1 : Puk 82 [trA a] (trA (.num p))) (f2 : Puk 82 [trA b] (trA (.num q))) (m1 : Puk 86 [stA (Tr.num p).ob.num, stA (Tr.num q).ob.num] (stA m)) (m2 : Puk 86 [stA (Tr.num p).ob.den, stA (Tr.num q).ob.den] (stA d)) (r1 : Puk 85 [stA m, stA d] (trA (.num r))) : Puk 46 [trA a, trA b] (trA (.num r)) :=
  pwalk (an := [.av (trA (.num p)), .av (trA (.num q)), .av (stA m), .av (stA d), .av (trA (.num r))]) (ls := []) (ps := [Puk 82 [(obA a.ob)] (trA (Tr.num p)), Puk 82 [(obA b.ob)] (trA (Tr.num q)), Puk 86 [(stA (Tr.num p).ob.num), (stA (Tr.num q).ob.num)] (stA m), Puk 86 [(stA (Tr.num p).ob.den), (stA (Tr.num q).ob.den)] (stA d), Puk 85 [(stA m), (stA d)] (trA (Tr.num r))]) Tryz.func46 (by kernel_rfl) (by kernel_rfl) ⟨f1, f2, m1, m2, r1, trivial⟩
theorem w_rSum {s : List UInt8} (f1 : Puk 101 [trA a] (trA (.num p))) (f2 : Puk 101 [trA b] (trA (.num q))) (m1 : Puk 146 [stA (Tr.num p).ob.num, stA (Tr.num q).ob.den] (stA m)) (m2 : Puk 146 [stA (Tr.num q).ob.num, stA (Tr.num p).ob.den] (stA n)) (m3 : Puk 145 [stA m, stA n] (stA s)) (m4 : Puk 146 [stA (Tr.num p).ob.den, stA (Tr.num q).ob.den] (stA d)) (r1 : Puk 35 [stA s, stA d] (trA (.num r))) : Puk 108 [trA a, trA b] (trA (.num r)) :=
  pwalk (an := [.av (trA (.num p)), .av (trA (.num q)), .av (stA m), .av (stA n), .av (stA s), .av (stA d), .av (trA (.num r))]) (ls := []) (ps := [Puk 101 [(obA a.ob)] (trA (Tr.num p)), Puk 101 [(obA b.ob)] (trA (Tr.num q)), Puk 146 [(stA (Tr.num p).ob.num), (stA (Tr.num q).ob.den)] (stA m), Puk 146 [(stA (Tr.num q).ob.num), (stA (Tr.num p).ob.den)] (stA n), Puk 145 [(stA m), (stA n)] (stA s), Puk 146 [(stA (Tr.num p).ob.den), (stA (Tr.num q).ob.den)] (stA d), Puk 35 [(stA s), (stA d)] (trA (Tr.num r))]) Tryz.func108 (by kernel_rfl) (by kernel_rfl) ⟨f1, f2, m1, m2, m3, m4, r1, trivial⟩
theorem w_oSum {s : List UInt8} (hd : ¬ ((Tr.num p).ob.den = [49] ∧ (Tr.num q).ob.den = [49])) (f1 : Puk 82 [trA a] (trA (.num p))) (f2 : Puk 82 [trA b] (trA (.num q))) (m1 : Puk 86 [stA (Tr.num p).ob.num, stA (Tr.num q).ob.den] (stA m)) (m2 : Puk 86 [stA (Tr.num q).ob.num, stA (Tr.num p).ob.den] (stA n)) (m3 : Puk 84 [stA m, stA n] (stA s)) (m4 : Puk 86 [stA (Tr.num p).ob.den, stA (Tr.num q).ob.den] (stA d)) (r1 : Puk 85 [stA s, stA d] (trA (.num r))) : Puk 45 [trA a, trA b] (trA (.num r)) := by
  by_cases h : (Tr.num p).ob.den = [49]
  · exact pwalk (an := [.av (trA (.num p)), .av (trA (.num q)), yT, yF, .av (stA m), .av (stA n), .av (stA s), .av (stA d), .av (trA (.num r))]) (ls := []) (ps := [Puk 82 [(obA a.ob)] (trA (Tr.num p)), Puk 82 [(obA b.ob)] (trA (Tr.num q)), Bn .eql 9 (.tmp 10) (.const (Value.string { data := #[49] : ByteArray })) (str (Tr.num p).ob.den) (str [49]) bT, Bn .eql 9 (.tmp 14) (.const (Value.string { data := #[49] : ByteArray })) (str (Tr.num q).ob.den) (str [49]) bF, Puk 86 [(stA (Tr.num p).ob.num), (stA (Tr.num q).ob.den)] (stA m), Puk 86 [(stA (Tr.num q).ob.num), (stA (Tr.num p).ob.den)] (stA n), Puk 84 [(stA m), (stA n)] (stA s), Puk 86 [(stA (Tr.num p).ob.den), (stA (Tr.num q).ob.den)] (stA d), Puk 85 [(stA s), (stA d)] (trA (Tr.num r))]) Tryz.func45 (by kernel_rfl) (by kernel_rfl) ⟨f1, f2, bin_seq (decide_eq_true h), bin_seq (decide_eq_false fun e => hd ⟨h, e⟩), m1, m2, m3, m4, r1, trivial⟩
  · exact pwalk (an := [.av (trA (.num p)), .av (trA (.num q)), yF, .av (stA m), .av (stA n), .av (stA s), .av (stA d), .av (trA (.num r))]) (ls := []) (ps := [Puk 82 [(obA a.ob)] (trA (Tr.num p)), Puk 82 [(obA b.ob)] (trA (Tr.num q)), Bn .eql 9 (.tmp 10) (.const (Value.string { data := #[49] : ByteArray })) (str (Tr.num p).ob.den) (str [49]) bF, Puk 86 [(stA (Tr.num p).ob.num), (stA (Tr.num q).ob.den)] (stA m), Puk 86 [(stA (Tr.num q).ob.num), (stA (Tr.num p).ob.den)] (stA n), Puk 84 [(stA m), (stA n)] (stA s), Puk 86 [(stA (Tr.num p).ob.den), (stA (Tr.num q).ob.den)] (stA d), Puk 85 [(stA s), (stA d)] (trA (Tr.num r))]) Tryz.func45 (by kernel_rfl) (by kernel_rfl) ⟨f1, f2, bin_seq (decide_eq_false h), m1, m2, m3, m4, r1, trivial⟩
theorem w_oSumI (h1 : (Tr.num p).ob.den = [49]) (h2 : (Tr.num q).ob.den = [49]) (f1 : Puk 82 [trA a] (trA (.num p))) (f2 : Puk 82 [trA b] (trA (.num q))) (m1 : Puk 84 [stA (Tr.num p).ob.num, stA (Tr.num q).ob.num] (stA m)) (r1 : Puk 83 [stA m] (trA (.num r))) : Puk 45 [trA a, trA b] (trA (.num r)) :=
  pwalk (an := [.av (trA (.num p)), .av (trA (.num q)), yT, yT, .av (stA m), .av (trA (.num r))]) (ls := []) (ps := [Puk 82 [(obA a.ob)] (trA (Tr.num p)), Puk 82 [(obA b.ob)] (trA (Tr.num q)), Bn .eql 9 (.tmp 10) (.const (Value.string { data := #[49] : ByteArray })) (str (Tr.num p).ob.den) (str [49]) bT, Bn .eql 9 (.tmp 14) (.const (Value.string { data := #[49] : ByteArray })) (str (Tr.num q).ob.den) (str [49]) bT, Puk 84 [(stA (Tr.num p).ob.num), (stA (Tr.num q).ob.num)] (stA m), Puk 83 [(stA m)] (trA (Tr.num r))]) Tryz.func45 (by kernel_rfl) (by kernel_rfl) ⟨f1, f2, bin_seq (decide_eq_true h1), bin_seq (decide_eq_true h2), m1, r1, trivial⟩
theorem w_rOpp (f1 : Puk 101 [trA a] (trA (.num p))) (m1 : Puk 142 [stA (Tr.num p).ob.num] (stA m)) (r1 : Puk 35 [stA m, stA (Tr.num p).ob.den] (trA (.num r))) : Puk 104 [trA a] (trA (.num r)) :=
  pwalk (an := [.av (trA (.num p)), .av (stA m), .av (trA (.num r))]) (ls := []) (ps := [Puk 101 [(obA a.ob)] (trA (Tr.num p)), Puk 142 [(stA (Tr.num p).ob.num)] (stA m), Puk 35 [(stA m), (stA (Tr.num p).ob.den)] (trA (Tr.num r))]) Tryz.func104 (by kernel_rfl) (by kernel_rfl) ⟨f1, m1, r1, trivial⟩
theorem w_rInv (f1 : Puk 101 [trA a] (trA (.num p))) (r1 : Puk 35 [stA (Tr.num p).ob.den, stA (Tr.num p).ob.num] (trA (.num r))) : Puk 105 [trA a] (trA (.num r)) :=
  pwalk (an := [.av (trA (.num p)), .av (trA (.num r))]) (ls := []) (ps := [Puk 101 [(obA a.ob)] (trA (Tr.num p)), Puk 35 [(stA (Tr.num p).ob.den), (stA (Tr.num p).ob.num)] (trA (Tr.num r))]) Tryz.func105 (by kernel_rfl) (by kernel_rfl) ⟨f1, r1, trivial⟩
theorem w_oOpp (f1 : Puk 82 [trA a] (trA (.num p))) (m1 : Puk 134 [stA (Tr.num p).ob.num] (stA m)) : Puk 95 [trA a] (obA ⟨(Tr.num p).ob.kind, m, (Tr.num p).ob.den, (Tr.num p).ob.sp, (Tr.num p).ob.sn, (Tr.num p).ob.text, (Tr.num p).ob.pair⟩) :=
  pwalk (an := [.av (trA (.num p)), .av (stA m)]) (ls := []) (ps := [Puk 82 [(obA a.ob)] (trA (Tr.num p)), Puk 134 [(stA (Tr.num p).ob.num)] (stA m)]) Tryz.func95 (by kernel_rfl) (by kernel_rfl) ⟨f1, m1, trivial⟩
theorem w_oInv (f1 : Puk 82 [trA a] (trA (.num p))) (r1 : Puk 85 [stA (Tr.num p).ob.den, stA (Tr.num p).ob.num] (trA (.num r))) : Puk 96 [trA a] (trA (.num r)) :=
  pwalk (an := [.av (trA (.num p)), .av (trA (.num r))]) (ls := []) (ps := [Puk 82 [(obA a.ob)] (trA (Tr.num p)), Puk 85 [(stA (Tr.num p).ob.den), (stA (Tr.num p).ob.num)] (trA (Tr.num r))]) Tryz.func96 (by kernel_rfl) (by kernel_rfl) ⟨f1, r1, trivial⟩
theorem w_oLess {b' : Bool} {c : Int} (f1 : Puk 82 [trA a] (trA (.num p))) (f2 : Puk 82 [trA b] (trA (.num q))) (m1 : Puk 93 [trA (.num p), trA (.num q)] (inA c)) (hc : decide (c < 0) = b') : Puk 54 [trA a, trA b] (boA b') :=
  pwalk (an := [.av (trA (.num p)), .av (trA (.num q)), .av (inA c), .av (boA b')]) (ls := []) (ps := [Puk 82 [(obA a.ob)] (trA (Tr.num p)), Puk 82 [(obA b.ob)] (trA (Tr.num q)), Puk 93 [(trA (Tr.num p)), (trA (Tr.num q))] (inA c), Bn .lss 3 (.tmp 9) (.const (vi 0)) (vi c) (vi 0) (Value.bool b')]) Tryz.func54 (by kernel_rfl) (by kernel_rfl) ⟨f1, f2, m1, bin_ilt hc, trivial⟩
end
section
variable {k : Nat} {a b : Tr}
theorem nvl (q : Rat) : Dec.dval (Tr.num q).ob.num = q.num := Dec.dval_itoa _
theorem dvl (q : Rat) : Dec.dval (Tr.num q).ob.den = q.den := Dec.dval_itoa (q.den : Int)
theorem nl {q : Rat} (h : Rb k q) (hk : k ≤ 10000) : (Tr.num q).ob.num.length ≤ 20000 := Nat.le_trans (Rb.nlen h) (by omega)
theorem dl {q : Rat} (h : Rb k q) (hk : k ≤ 10000) : (Tr.num q).ob.den.length ≤ 20000 := Nat.le_trans (Rb.dlen h) (by omega)
theorem ml {x y : Int} (hx : x.natAbs < 10 ^ k) (hy : y.natAbs < 10 ^ k) (h1 : 1 ≤ k) (hk : k ≤ 10000) : (Lib.itoa (x * y)).length ≤ 50000 := by
  have h : (x * y).natAbs < 10 ^ (k + k) := by
    rw [Int.natAbs_mul, Nat.pow_add]
    exact Nat.mul_lt_mul'' hx hy
  exact Nat.le_trans (itoa_length_any _ (k := k + k) (by omega) h) (by omega)
theorem al' {x y : Int} (hx : (Lib.itoa x).length ≤ k) (hy : (Lib.itoa y).length ≤ k) : (Lib.itoa (x + y)).length ≤ k + 2 := by
  have h1 := dval_lt18 hx
  have h2 := dval_lt18 hy
  rw [Dec.dval_itoa] at h1 h2
  refine itoa_length_any _ (k := k + 1) (by omega) ?_
  rw [Nat.pow_succ]
  generalize 10 ^ k = z at *
  have := Int.natAbs_add_le x y
  omega
theorem al {x y : Int} (hx : (Lib.itoa x).length ≤ 50000) (hy : (Lib.itoa y).length ≤ 50000) : (Lib.itoa (x + y)).length ≤ 100010 := Nat.le_trans (al' hx hy) (by decide)
variable (ha : a.Ok k) (hb : b.Ok k) (h1 : 1 ≤ k) (hk : k ≤ 10000)
include ha h1 hk
theorem p_rOpp : Puk 104 [trA a] (trA (.num (-a.val))) := by
  have ba := ha.val h1
  refine w_rOpp (p_rFix a) (p_rNegS (nvl _) (Nat.le_trans (nl ba hk) (by decide))) ?_
  have h := p_rRat (a := Lib.itoa (-a.val.num)) (b := (Tr.num a.val).ob.den) (Nat.le_trans (itoa_length_any _ (k := k) h1 (by rw [Int.natAbs_neg]; exact ba.num)) (by omega)) (Nat.le_trans (dl ba hk) (by decide))
  rw [Dec.dval_itoa, dvl, show Rat.divInt (-a.val.num) (a.val.den : Int) = -a.val by rw [← Rat.neg_divInt, Rat.num_divInt_den]] at h
  exact h
theorem p_rInv : Puk 105 [trA a] (trA (.num a.val⁻¹)) := by
  have ba := ha.val h1
  refine w_rInv (p_rFix a) ?_
  have h := p_rRat (a := (Tr.num a.val).ob.den) (b := (Tr.num a.val).ob.num) (Nat.le_trans (dl ba hk) (by decide)) (Nat.le_trans (nl ba hk) (by decide))
  rw [dvl, nvl, ← Rat.inv_def] at h
  exact h
theorem p_oOpp : Puk 95 [trA a] (trA (.num (-a.val))) := by
  have ba := ha.val h1
  refine (w_oOpp (p_oFixO a) (p_oNegS (nvl _) (Nat.le_trans (nl ba hk) (by decide)))).val (congrArg obA ?_)
  show (⟨1, Lib.itoa (-a.val.num), Lib.itoa (a.val.den : Int), [], [], [], []⟩ : Ob) = ⟨1, Lib.itoa (-a.val).num, Lib.itoa ((-a.val).den : Int), [], [], [], []⟩
  rw [Rat.neg_num, Rat.neg_den]
theorem p_oInv : Puk 96 [trA a] (trA (.num a.val⁻¹)) := by
  have ba := ha.val h1
  refine w_oInv (p_oFixO a) ?_
  have h := p_oRat (a := (Tr.num a.val).ob.den) (b := (Tr.num a.val).ob.num) (Nat.le_trans (dl ba hk) (by decide)) (Nat.le_trans (nl ba hk) (by decide))
  rw [dvl, nvl, ← Rat.inv_def] at h
  exact h
include hb
theorem p_rProd : Puk 109 [trA a, trA b] (trA (.num (a.val * b.val))) := by
  have ba := ha.val h1
  have bb := hb.val h1
  refine w_rProd (p_rFix a) (p_rFix b) (p_rMulS (nvl _) (nvl _) (Nat.le_trans (nl ba hk) (by decide)) (Nat.le_trans (nl bb hk) (by decide))) (p_rMulS (dvl _) (dvl _) (Nat.le_trans (dl ba hk) (by decide)) (Nat.le_trans (dl bb hk) (by decide))) ?_
  have h := p_rRat (Nat.le_trans (ml ba.num bb.num h1 hk) (by decide)) (Nat.le_trans (ml (x := (a.val.den : Int)) (y := (b.val.den : Int)) (by rw [Int.natAbs_natCast]; exact ba.den) (by rw [Int.natAbs_natCast]; exact bb.den) h1 hk) (by decide))
  rw [Dec.dval_itoa, Dec.dval_itoa, ← Rat.mul_div] at h
  exact h
theorem p_oProd : Puk 46 [trA a, trA b] (trA (.num (a.val * b.val))) := by
  have ba := ha.val h1
  have bb := hb.val h1
  refine w_oProd (p_oFixO a) (p_oFixO b) (p_oMulS (nvl _) (nvl _) (Nat.le_trans (nl ba hk) (by decide)) (Nat.le_trans (nl bb hk) (by decide))) (p_oMulS (dvl _) (dvl _) (Nat.le_trans (dl ba hk) (by decide)) (Nat.le_trans (dl bb hk) (by decide))) ?_
  have h := p_oRat (Nat.le_trans (ml ba.num bb.num h1 hk) (by decide)) (Nat.le_trans (ml (x := (a.val.den : Int)) (y := (b.val.den : Int)) (by rw [Int.natAbs_natCast]; exact ba.den) (by rw [Int.natAbs_natCast]; exact bb.den) h1 hk) (by decide))
  rw [Dec.dval_itoa, Dec.dval_itoa, ← Rat.mul_div] at h
  exact h
theorem p_rSum : Puk 108 [trA a, trA b] (trA (.num (a.val + b.val))) := by
  have ba := ha.val h1
  have bb := hb.val h1
  have l1 := ml (x := a.val.num) (y := (b.val.den : Int)) ba.num (by rw [Int.natAbs_natCast]; exact bb.den) h1 hk
  have l2 := ml (x := b.val.num) (y := (a.val.den : Int)) bb.num (by rw [Int.natAbs_natCast]; exact ba.den) h1 hk
  have l3 := ml (x := (a.val.den : Int)) (y := (b.val.den : Int)) (by rw [Int.natAbs_natCast]; exact ba.den) (by rw [Int.natAbs_natCast]; exact bb.den) h1 hk
  refine w_rSum (p_rFix a) (p_rFix b) (p_rMulS (nvl _) (dvl _) (Nat.le_trans (nl ba hk) (by decide)) (Nat.le_trans (dl bb hk) (by decide))) (p_rMulS (nvl _) (dvl _) (Nat.le_trans (nl bb hk) (by decide)) (Nat.le_trans (dl ba hk) (by decide))) (p_rAddS (Dec.dval_itoa _) (Dec.dval_itoa _) (by omega) (by omega)) (p_rMulS (dvl _) (dvl _) (Nat.le_trans (dl ba hk) (by decide)) (Nat.le_trans (dl bb hk) (by decide))) ?_
  have h := p_rRat (Nat.le_trans (al l1 l2) (by decide)) (Nat.le_trans l3 (by decide))
  rw [Dec.dval_itoa, Dec.dval_itoa, ← Rat.add_div] at h
  exact h
theorem p_oSum : Puk 45 [trA a, trA b] (trA (.num (a.val + b.val))) := by
  have ba := ha.val h1
  have bb := hb.val h1
  by_cases hd : (Tr.num a.val).ob.den = [49] ∧ (Tr.num b.val).ob.den = [49]
  · obtain ⟨d1, d2⟩ := hd
    refine w_oSumI d1 d2 (p_oFixO a) (p_oFixO b) (p_oAddS (nvl _) (nvl _) (Nat.le_trans (nl ba hk) (by decide)) (Nat.le_trans (nl bb hk) (by decide))) ((p_oIntS _).val (congrArg obA ?_))
    have e1 : (a.val.den : Int) = 1 := by rw [← dvl a.val, d1]; decide +kernel
    have e2 : (b.val.den : Int) = 1 := by rw [← dvl b.val, d2]; decide +kernel
    have e : a.val + b.val = ((a.val.num + b.val.num : Int) : Rat) := by
      rw [Rat.add_div, e1, e2]
      simp only [Int.mul_one]
      exact divInt_one' _
    rw [e]
    exact (ratO_int _).symm
  · have l1 := ml (x := a.val.num) (y := (b.val.den : Int)) ba.num (by rw [Int.natAbs_natCast]; exact bb.den) h1 hk
    have l2 := ml (x := b.val.num) (y := (a.val.den : Int)) bb.num (by rw [Int.natAbs_natCast]; exact ba.den) h1 hk
    have l3 := ml (x := (a.val.den : Int)) (y := (b.val.den : Int)) (by rw [Int.natAbs_natCast]; exact ba.den) (by rw [Int.natAbs_natCast]; exact bb.den) h1 hk
    refine w_oSum hd (p_oFixO a) (p_oFixO b) (p_oMulS (nvl _) (dvl _) (Nat.le_trans (nl ba hk) (by decide)) (Nat.le_trans (dl bb hk) (by decide))) (p_oMulS (nvl _) (dvl _) (Nat.le_trans (nl bb hk) (by decide)) (Nat.le_trans (dl ba hk) (by decide))) (p_oAddS (Dec.dval_itoa _) (Dec.dval_itoa _) (by omega) (by omega)) (p_oMulS (dvl _) (dvl _) (Nat.le_trans (dl ba hk) (by decide)) (Nat.le_trans (dl bb hk) (by decide))) ?_
    have h := p_oRat (Nat.le_trans (al l1 l2) (by decide)) (Nat.le_trans l3 (by decide))
    rw [Dec.dval_itoa, Dec.dval_itoa, ← Rat.add_div] at h
    exact h
theorem p_oLessN : Puk 54 [trA a, trA b] (boA (decide (a.val < b.val))) :=
  w_oLess (p_oFixO a) (p_oFixO b) (p_oValQ (ha.val h1) (hb.val h1) hk) (cmpQ_neg _ _)
end
end Go.Proofs.YtmkcnjfhdfanoaaGreatDoor
/- Leaf contracts on plain trees; what the primitives compute. -/
namespace Go.Proofs.YtmkcnjfhdfanoaaGreatDoor
open Go.RowKit

abbrev nilT : Tr := .sym lispB nilB
abbrev truT (b : Bool) : Tr := if b then .sym lispB [116] else nilT
theorem p_oNil : Puk 50 [] (trA nilT) :=
  ⟨fnm Tryz.func50 rfl (by kernel_rfl), fun ok w vs ht hv => by
    obtain rfl : vs = [] := hv
    exact (oNil_any w).mono fun _ _ h => RetLeaf.pure (r := nilO) rfl h⟩
theorem p_oT : Puk 92 [] (trA (.sym lispB [116])) :=
  ⟨fnm Tryz.func92 rfl (by kernel_rfl), fun ok w vs ht hv => by
    obtain rfl : vs = [] := hv
    exact (oT_any w).mono fun _ _ h => RetLeaf.pure (r := tO) rfl h⟩
theorem p_rNil : Puk 30 [] (trA nilT) :=
  ⟨fnm Tryz.func30 rfl (by kernel_rfl), fun ok w vs ht hv => by
    obtain rfl : vs = [] := hv
    exact (rNil_any w).mono fun _ _ h => RetLeaf.pure (r := nilO) rfl h⟩
theorem p_rT : Puk 38 [] (trA (.sym lispB [116])) :=
  ⟨fnm Tryz.func38 rfl (by kernel_rfl), fun ok w vs ht hv => by
    obtain rfl : vs = [] := hv
    exact (rT_any w).mono fun _ _ h => RetLeaf.pure (r := tO) rfl h⟩
theorem p_oText (t : List UInt8) : Puk 47 [stA t] (trA (.txt t)) :=
  ⟨fnm Tryz.func47 rfl (by kernel_rfl), fun ok w vs ht hv => by
    obtain rfl := hv.one_val
    exact (oText_any w t).mono fun _ _ h => RetLeaf.pure (r := txtO t) rfl h⟩
theorem p_oSym (p s : List UInt8) : Puk 88 [syA p s] (trA (.sym p s)) :=
  ⟨fnm Tryz.func88 rfl (by kernel_rfl), fun ok w vs ht hv => by
    obtain ⟨u, us, rfl, h1, rfl⟩ := hv
    rw [h1.sy]
    exact (oSymbol_any w p s).mono fun _ _ h => RetLeaf.pure (r := symO p s) rfl h⟩
theorem p_oRatI {q : Int} {a : List UInt8} (ha : a.length ≤ 1100000) (hq : Dec.dval a = q) : Puk 85 [stA a, stA [49]] (trA (.num (q : Rat))) := by
  have h := p_oRat (b := [49]) ha (by decide)
  have e : Rat.divInt (Dec.dval a) (Dec.dval [49]) = (q : Rat) := by
    rw [hq, show Dec.dval [49] = 1 by decide +kernel]
    exact divInt_one' q
  rwa [e] at h
theorem p_oIsI (t : Tr) : Puk 89 [trA t] (boA (decide (t.ob.kind = 1 ∧ t.ob.den = [49]))) :=
  pk_ov (fnm Tryz.func89 rfl (by kernel_rfl)) fun ok A n c w _ _ => oIsInteger_any t.ob A n c w
theorem p_rText (t : List UInt8) : Puk 26 [stA t] (trA (.txt t)) :=
  ⟨fnm Tryz.func26 rfl (by kernel_rfl), fun ok w vs ht hv => by
    obtain rfl := hv.one_val
    exact (rText_any w t).mono fun _ _ h => RetLeaf.pure (r := txtO t) rfl h⟩
theorem p_rSym (p s : List UInt8) : Puk 32 [syA p s] (trA (.sym p s)) :=
  ⟨fnm Tryz.func32 rfl (by kernel_rfl), fun ok w vs ht hv => by
    obtain ⟨u, us, rfl, h1, rfl⟩ := hv
    rw [h1.sy]
    exact (rSymbol_any w p s).mono fun _ _ h => RetLeaf.pure (r := symO p s) rfl h⟩
theorem p_rRatI {q : Int} {a : List UInt8} (ha : a.length ≤ 1100000) (hq : Dec.dval a = q) : Puk 35 [stA a, stA [49]] (trA (.num (q : Rat))) := by
  have h := p_rRat (b := [49]) ha (by decide)
  have e : Rat.divInt (Dec.dval a) (Dec.dval [49]) = (q : Rat) := by
    rw [hq, show Dec.dval [49] = 1 by decide +kernel]
    exact divInt_one' q
  rwa [e] at h
theorem p_rIsI (t : Tr) : Puk 40 [trA t] (boA (decide (t.ob.kind = 1 ∧ t.ob.den = [49]))) :=
  pk_ov (fnm Tryz.func40 rfl (by kernel_rfl)) fun ok A n c w _ _ => rIsInteger_any t.ob A n c w
theorem p_oIsNil (t : Tr) : Puk 43 [trA t] (boA (decide (t = nilT))) := by
  have h : Puk 43 [trA t] (boA (decide (t.ob.kind = 2 ∧ t.ob.sp = lispB ∧ t.ob.sn = nilB))) := pk_ov (fnm Tryz.func43 rfl (by kernel_rfl)) fun ok A n c w _ _ => oIsNil_any t.ob A n c w
  refine h.b ?_
  cases t with
  | sym p s =>
    by_cases hh : p = lispB ∧ s = nilB
    · obtain ⟨rfl, rfl⟩ := hh
      rw [decide_eq_true ⟨rfl, rfl, rfl⟩, decide_eq_true rfl]
    · rw [decide_eq_false (fun h => hh ⟨h.2.1, h.2.2⟩), decide_eq_false (fun h => by cases h; exact hh ⟨rfl, rfl⟩)]
  | num q => rw [decide_eq_false (fun h => absurd (show (1 : Int) = 2 from h.1) (by decide)), decide_eq_false (fun h => by cases h)]
  | txt q => rw [decide_eq_false (fun h => absurd (show (3 : Int) = 2 from h.1) (by decide)), decide_eq_false (fun h => by cases h)]
  | cons a d => rw [decide_eq_false (fun h => absurd (show (4 : Int) = 2 from h.1) (by decide)), decide_eq_false (fun h => by cases h)]
theorem p_rIsNil {k : Nat} {t : Tr} (h : t.Ok k) (hk : k ≤ 100000) : Puk 39 [trA t] (boA (decide (t = nilT))) :=
  ⟨fnm Tryz.func39 rfl (by kernel_rfl), fun ok w vs ht hv => by
    obtain ⟨A, n, c, rfl, hr⟩ := hv.one_obj
    exact (rIsNil_any ok t.ob (h.wf hk) A n c w hr).mono fun e w' h => (RetEq.iff (Tr.ob_iff (a := t) (b := nilT)) h).pure⟩
/-- the small value of a numeral -/
def smV (l : List UInt8) : Int × Bool := if (Dec.mag (norm l)).length ≤ 9 then (Dec.dval l, true) else (0, false)
theorem p_oSmall {l : List UInt8} (hl : l.length ≤ 2500000) : Puk 90 [stA l] (.tup [inA (smV l).1, boA (smV l).2]) :=
  ⟨fnm Tryz.func90 rfl (by kernel_rfl), fun ok w vs ht hv => by
    obtain rfl := hv.one_val
    unfold smV
    split
    · rename_i h
      refine (small_yes l w hl h).mono ?_
      rintro e w' ⟨rfl, h2⟩
      exact ⟨_, rfl, h2, _, rfl, _, _, rfl, .val _, _, _, rfl, .val _, rfl⟩
    · rename_i h
      refine (small_no l w hl (by omega)).mono ?_
      rintro e w' ⟨rfl, h2⟩
      exact ⟨_, rfl, h2, _, rfl, _, _, rfl, .val _, _, _, rfl, .val _, rfl⟩⟩
theorem p_rSmall {l : List UInt8} (hl : l.length ≤ 2500000) : Puk 112 [stA l] (.tup [inA (smV l).1, boA (smV l).2]) :=
  ⟨fnm Tryz.func112 rfl (by kernel_rfl), fun ok w vs ht hv => by
    obtain rfl := hv.one_val
    unfold smV
    split
    · rename_i h
      refine (refSmall_yes l w hl h).mono ?_
      rintro e w' ⟨rfl, h2⟩
      exact ⟨_, rfl, h2, _, rfl, _, _, rfl, .val _, _, _, rfl, .val _, rfl⟩
    · rename_i h
      refine (refSmall_no l w hl (by omega)).mono ?_
      rintro e w' ⟨rfl, h2⟩
      exact ⟨_, rfl, h2, _, rfl, _, _, rfl, .val _, _, _, rfl, .val _, rfl⟩⟩
theorem p_oDiv {a b : List UInt8} (ha : a.length ≤ 2400000) (hb : b.length ≤ 2400000) : Puk 98 [stA a, stA b] (.tup [stA (Lib.itoa (qd (Dec.dval a) (Dec.dval b))), stA (Lib.itoa (rm (Dec.dval a) (Dec.dval b)))]) :=
  ⟨fnm Tryz.func98 rfl (by kernel_rfl), fun ok w vs ht hv => by
    obtain ⟨u, us, rfl, h1, h2⟩ := hv
    obtain rfl := RL.one_val h2
    rw [Rd.val_eq h1]
    refine (divN_any a b w ha hb ht.1).mono ?_
    rintro e w' ⟨rfl, h2⟩
    exact ⟨_, rfl, h2, _, rfl, _, _, rfl, .val _, _, _, rfl, .val _, rfl⟩⟩
theorem p_rDiv {a b : List UInt8} (ha : a.length ≤ 2400000) (hb : b.length ≤ 2400000) : Puk 106 [stA a, stA b] (.tup [stA (Lib.itoa (qd (Dec.dval a) (Dec.dval b))), stA (Lib.itoa (rm (Dec.dval a) (Dec.dval b)))]) :=
  ⟨fnm Tryz.func106 rfl (by kernel_rfl), fun ok w vs ht hv => by
    obtain ⟨u, us, rfl, h1, h2⟩ := hv
    obtain rfl := RL.one_val h2
    rw [Rd.val_eq h1]
    refine (refDiv_any a b w ha hb).mono ?_
    rintro e w' ⟨rfl, h2⟩
    exact ⟨_, rfl, h2, _, rfl, _, _, rfl, .val _, _, _, rfl, .val _, rfl⟩⟩
theorem p_oSyV {p s : List UInt8} (hp : p.length ≤ 9223372036854775807) (hs : s.length ≤ 9223372036854775807) : Puk 87 [syA p s] (boA (symOk ⟨p, s⟩)) :=
  ⟨fnm Tryz.func87 rfl (by kernel_rfl), fun ok w vs ht hv => by
    obtain ⟨u, us, rfl, h1, rfl⟩ := hv
    rw [h1.sy]
    exact (symValid_any ⟨p, s⟩ w hp hs).mono fun _ _ => RetBel.pure⟩
theorem p_rSyV {p s : List UInt8} (hp : p.length ≤ 9223372036854775807) (hs : s.length ≤ 9223372036854775807) : Puk 31 [syA p s] (boA (symOk ⟨p, s⟩)) :=
  ⟨fnm Tryz.func31 rfl (by kernel_rfl), fun ok w vs ht hv => by
    obtain ⟨u, us, rfl, h1, rfl⟩ := hv
    rw [h1.sy]
    exact (ref4Valid_any ⟨p, s⟩ w hp hs).mono fun _ _ => RetBel.pure⟩
namespace Tr
abbrev tx (t : Tr) : List UInt8 := t.ob.text
def isT : Tr → Bool
  | .txt _ => true
  | _ => false
def isY : Tr → Bool
  | .sym _ _ => true
  | _ => false
def isN : Tr → Bool
  | .num _ => true
  | _ => false
def isI : Tr → Bool
  | .num q => decide (q.den = 1)
  | _ => false
theorem isI_ob (t : Tr) : decide (t.ob.kind = 1 ∧ t.ob.den = [49]) = t.isI := by
  cases t with
  | num q =>
    have h : ((ratO q).den = [49]) ↔ q.den = 1 := by
      show Lib.itoa (q.den : Int) = [49] ↔ _
      have := itoa_eq_one (v := (q.den : Int))
      constructor
      · intro h
        rw [h] at this
        have h2 : decide ((q.den : Int) = 1) = true := by rw [← this]; rfl
        have := of_decide_eq_true h2
        omega
      · intro h
        rw [h]
        exact itoa_one
    by_cases hq : q.den = 1
    · show decide ((1 : Int) = 1 ∧ (ratO q).den = [49]) = decide (q.den = 1)
      rw [decide_eq_true hq, decide_eq_true ⟨rfl, h.2 hq⟩]
    · show decide ((1 : Int) = 1 ∧ (ratO q).den = [49]) = decide (q.den = 1)
      rw [decide_eq_false hq, decide_eq_false fun hh => hq (h.1 hh.2)]
  | txt s => exact decide_eq_false fun h => absurd (show (3 : Int) = 1 from h.1) (by decide)
  | sym p s => exact decide_eq_false fun h => absurd (show (2 : Int) = 1 from h.1) (by decide)
  | cons a d => exact decide_eq_false fun h => absurd (show (4 : Int) = 1 from h.1) (by decide)
/-- the index that i is of the string x -/
def ixV (x i : Tr) : Option Int := if x.isT && i.isI && (smV i.ob.num).2 && decide (0 ≤ (smV i.ob.num).1) && decide ((smV i.ob.num).1 < x.tx.length) then some (smV i.ob.num).1 else none
def octV (x : Tr) : Option Int := if x.isI && (smV x.ob.num).2 && decide (0 ≤ (smV x.ob.num).1) && decide ((smV x.ob.num).1 ≤ 255) then some (smV x.ob.num).1 else none
def carT : Tr → Tr
  | .cons a _ => a
  | _ => nilT
def cdrT : Tr → Tr
  | .cons _ d => d
  | _ => nilT
/-- the primitives on trees, by their number -/
def ap : Nat → Tr → Tr → Tr → Tr
  | 0, x, y, z => if x = nilT then z else y
  | 1, x, y, _ => truT (decide (x = y))
  | 2, x, y, _ => .cons x y
  | 3, x, _, _ => x.carT
  | 4, x, _, _ => x.cdrT
  | 5, x, _, _ => truT x.isC
  | 6, x, _, _ => truT x.isY
  | 7, x, _, _ => truT x.isT
  | 8, x, _, _ => truT x.isN
  | 9, x, _, _ => truT x.isI
  | 10, x, y, _ => .num (x.val + y.val)
  | 11, x, y, _ => .num (x.val * y.val)
  | 12, x, _, _ => .num (-x.val)
  | 13, x, _, _ => .num x.val⁻¹
  | 14, x, y, _ => truT (decide (x.val < y.val))
  | 15, x, _, _ => .num (x.val.num : Rat)
  | 16, x, _, _ => .num ((x.val.den : Int) : Rat)
  | 17, x, _, _ => .num ((qd x.val.num x.val.den : Int) : Rat)
  | 18, x, _, _ => .txt x.ob.sn
  | 19, x, _, _ => .txt x.ob.sp
  | 20, x, y, _ => if x.isT && y.isT && symOk ⟨y.tx, x.tx⟩ then .sym y.tx x.tx else nilT
  | 21, x, y, _ => .txt (x.tx ++ y.tx)
  | 22, x, _, _ => .num ((x.tx.length : Int) : Rat)
  | 23, x, y, _ => match ixV x y with
    | some n => .num ((x.tx.getD n.toNat 0).toNat : Int)
    | none => nilT
  | 24, x, _, _ => match octV x with
    | some n => .txt [UInt8.ofNat n.toNat]
    | none => .txt []
  | _, _, _, _ => nilT
def kept' (t : Tr) : Option Tr := if t.valid then some t else none
/-- what Apply of the code returns for the right number of arguments -/
def apO (i : Nat) (x y z : Tr) : Option Tr := if i = 2 ∨ i = 10 ∨ i = 11 ∨ i = 21 then kept' (ap i x y z) else some (ap i x y z)
end Tr
theorem kept_t {t : Tr} (h : t.valid = true) : Tr.kept' t = some t := by unfold Tr.kept'; rw [if_pos h]
theorem kept_f {t : Tr} (h : t.valid = false) : Tr.kept' t = none := by unfold Tr.kept'; rw [if_neg (by rw [h]; simp)]
theorem Tr.Ok.num_len {k : Nat} {t : Tr} (h : t.Ok k) (hk : k ≤ 100000) : t.ob.num.length ≤ 100001 := by
  cases t with
  | num q => exact Nat.le_trans (Rb.nlen h) (by omega)
  | _ => exact Nat.zero_le _
theorem Tr.Ok.tx_len {k : Nat} {t : Tr} (h : t.Ok k) : t.tx.length ≤ 100000 := by
  cases t with
  | txt q => exact h
  | _ => exact Nat.zero_le _
theorem isC_k (t : Tr) : decide (t.ob.kind = 4) = t.isC := by cases t <;> rfl
theorem isY_k (t : Tr) : decide (t.ob.kind = 2) = t.isY := by cases t <;> rfl
theorem isT_k (t : Tr) : decide (t.ob.kind = 3) = t.isT := by cases t <;> rfl
theorem isN_k (t : Tr) : decide (t.ob.kind = 1) = t.isN := by cases t <;> rfl
theorem bin_ine {P : Program} {t : TypeId} {x y : Operand} {k : IntKind} {a b : Int} {r : Bool} (h : decide (a = b) = !r) : BinIs P .neq t x y (.int k a) (.int k b) (.bool r) := by
  refine sbin_is ?_
  simp only [sbin, decide_true]
  rw [show (a != b) = !decide (a = b) by rw [bne, eqD a b], h, Bool.not_not]
theorem bin_ile {P : Program} {t : TypeId} {x y : Operand} {k : IntKind} {a b : Int} {r : Bool} (h : decide (a ≤ b) = r) : BinIs P .leq t x y (.int k a) (.int k b) (.bool r) := by
  refine sbin_is ?_
  simp only [sbin, decide_true]
  rw [h]
abbrev pinO (o : Ob) : AV := .pin ((encL o).map .dt)
abbrev rowA (ts : List Tr) : AV := .dt (.row (ts.map fun t => encL t.ob))
abbrev zO : Ob := ⟨0, [], [], [], [], [], []⟩
/-- a value, or the error -/
abbrev resT (o : Option Tr) : AV := match o with
  | some t => .tup [trA t, inA 0]
  | none => .tup [obA zO, inA 2]
theorem Puk.r {f : FuncId} {args : List AV} {a b : Option Tr} (h : Puk f args (resT a)) (e : a = b) : Puk f args (resT b) := e ▸ h
end Go.Proofs.YtmkcnjfhdfanoaaGreatDoor
