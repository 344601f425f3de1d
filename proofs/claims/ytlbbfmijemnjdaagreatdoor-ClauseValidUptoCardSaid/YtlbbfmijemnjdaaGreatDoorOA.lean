/- Plain arithmetic of decimals and limbs: what the Go texts of chapter 1 compute, with no program in sight. -/
import Derived.Lib.ItoaMem
import Derived.Lib.ParseIntB
import Derived.Lib.AtoiAll
import Derived.Lib.Strings
import Derived.WalkKit
import Derived.WalkSpells
import Derived.Test.YtlbbfmijemnjdaaGreatDoorProg
import Derived.Deep.QuietTactic
import Derived.BigQuiet
import Derived.OwnWalk
namespace Go.Proofs.YtlbbfmijemnjdaaGreatDoor.Dec
open Go Go.Lib

/-! ### Lists of limbs, the least one first -/
def lval (B : Nat) : List Nat → Nat
  | [] => 0
  | x :: r => x + B * lval B r
def limbsF (B : Nat) : Nat → Nat → List Nat
  | 0, _ => []
  | f + 1, n => if n = 0 then [] else n % B :: limbsF B f (n / B)
def limbs (B n : Nat) : List Nat := limbsF B n n
def Small (B : Nat) (l : List Nat) : Prop := ∀ x ∈ l, x < B
def trimZ (l : List Nat) : List Nat := (l.reverse.dropWhile (· == 0)).reverse

theorem limbsF_fuel (B : Nat) (hB : 2 ≤ B) : ∀ (f g n : Nat), n ≤ f → n ≤ g → limbsF B f n = limbsF B g n
  | 0, 0, _, _, _ => rfl
  | 0, g + 1, n, h, _ => by have : n = 0 := by omega
                            subst this; simp [limbsF]
  | f + 1, 0, n, _, h => by have : n = 0 := by omega
                            subst this; simp [limbsF]
  | f + 1, g + 1, n, h1, h2 => by
    by_cases hn : n = 0
    · subst hn; simp [limbsF]
    · have hd : n / B < n := Nat.div_lt_self (by omega) (by omega)
      simp only [limbsF, hn, if_false]
      rw [limbsF_fuel B hB f g (n / B) (by omega) (by omega)]
theorem limbs_zero (B : Nat) : limbs B 0 = [] := rfl
theorem limbs_step {B n : Nat} (hB : 2 ≤ B) (hn : n ≠ 0) : limbs B n = n % B :: limbs B (n / B) := by
  have hd : n / B < n := Nat.div_lt_self (by omega) (by omega)
  obtain ⟨m, rfl⟩ : ∃ m, n = m + 1 := ⟨n - 1, by omega⟩
  unfold limbs
  rw [limbsF, if_neg hn, limbsF_fuel B hB m ((m + 1) / B) _ (by omega) (Nat.le_refl _)]
theorem lval_limbs {B : Nat} (hB : 2 ≤ B) (n : Nat) : lval B (limbs B n) = n := by
  induction n using Nat.strongRecOn with
  | _ n ih =>
    by_cases hn : n = 0
    · subst hn; rfl
    · rw [limbs_step hB hn, lval, ih (n / B) (Nat.div_lt_self (by omega) (by omega))]
      exact Nat.mod_add_div n B
theorem limbs_small {B : Nat} (hB : 2 ≤ B) (n : Nat) : Small B (limbs B n) := by
  induction n using Nat.strongRecOn with
  | _ n ih =>
    by_cases hn : n = 0
    · subst hn; intro x hx; cases hx
    · rw [limbs_step hB hn]
      intro x hx
      rcases List.mem_cons.1 hx with rfl | hx
      · exact Nat.mod_lt _ (by omega)
      · exact ih (n / B) (Nat.div_lt_self (by omega) (by omega)) x hx
theorem limbs_eq_nil {B n : Nat} (hB : 2 ≤ B) : limbs B n = [] ↔ n = 0 := by
  constructor
  · intro h; rw [← lval_limbs hB n, h]; rfl
  · rintro rfl; rfl
theorem limbs_getLast {B : Nat} (hB : 2 ≤ B) (n : Nat) : ∀ h : limbs B n ≠ [], (limbs B n).getLast h ≠ 0 := by
  induction n using Nat.strongRecOn with
  | _ n ih =>
    intro h
    have hn : n ≠ 0 := fun e => h (by subst e; rfl)
    have e := limbs_step hB hn
    by_cases hq : n / B = 0
    · have : limbs B n = [n % B] := by rw [e, hq]; rfl
      simp only [this, List.getLast_singleton]
      have := Nat.mod_add_div n B
      rw [hq] at this
      omega
    · have hne : limbs B (n / B) ≠ [] := fun h' => hq ((limbs_eq_nil hB).1 h')
      have := ih (n / B) (Nat.div_lt_self (by omega) (by omega)) hne
      have key : ∀ (l : List Nat) (h : l ≠ []), l = n % B :: limbs B (n / B) → l.getLast h ≠ 0 := by
        rintro _ h rfl
        rw [List.getLast_cons hne]
        exact this
      exact key _ h e
theorem lval_append (B : Nat) (l r : List Nat) : lval B (l ++ r) = lval B l + B ^ l.length * lval B r := by
  induction l with
  | nil => simp [lval]
  | cons x l ih =>
    simp only [List.cons_append, lval, ih, List.length_cons, Nat.pow_succ]
    rw [Nat.mul_add, Nat.mul_comm (B ^ l.length) B, Nat.mul_assoc]
    omega
theorem lval_lt {B : Nat} (hB : 1 ≤ B) : ∀ {l : List Nat}, Small B l → lval B l < B ^ l.length
  | [], _ => by simp [lval]
  | x :: r, h => by
    have h1 : x < B := h x (by simp)
    have h2 := lval_lt hB (l := r) (fun y hy => h y (by simp [hy]))
    simp only [lval, List.length_cons, Nat.pow_succ]
    have : B * (lval B r + 1) ≤ B * B ^ r.length := Nat.mul_le_mul_left B h2
    rw [Nat.mul_add] at this
    rw [Nat.mul_comm (B ^ r.length) B]
    omega
theorem Small.cons {B x : Nat} {l : List Nat} (h : x < B) (hl : Small B l) : Small B (x :: l) := by
  intro y hy
  rcases List.mem_cons.1 hy with rfl | hy
  · exact h
  · exact hl y hy
theorem Small.append {B : Nat} {l r : List Nat} (hl : Small B l) (hr : Small B r) : Small B (l ++ r) := by
  intro y hy
  rcases List.mem_append.1 hy with hy | hy
  · exact hl y hy
  · exact hr y hy
theorem Small.nil {B : Nat} : Small B [] := fun _ h => by cases h
theorem Small.take {B : Nat} {l : List Nat} (h : Small B l) (k : Nat) : Small B (l.take k) := fun x hx => h x (List.mem_of_mem_take hx)
theorem Small.drop {B : Nat} {l : List Nat} (h : Small B l) (k : Nat) : Small B (l.drop k) := fun x hx => h x (List.mem_of_mem_drop hx)
theorem Small.getD {B : Nat} {l : List Nat} (hB : 1 ≤ B) (h : Small B l) (k : Nat) : l.getD k 0 < B := by
  by_cases hk : k < l.length
  · rw [List.getD_eq_getElem?_getD, List.getElem?_eq_getElem hk]; exact h _ (List.getElem_mem hk)
  · rw [List.getD_eq_getElem?_getD, List.getElem?_eq_none (by omega)]; simp; omega

/-- the canonical list is the only one without a zero at its end -/
theorem limbs_unique {B : Nat} (hB : 2 ≤ B) : ∀ (l : List Nat), Small B l → (∀ h : l ≠ [], l.getLast h ≠ 0) → l = limbs B (lval B l)
  | [], _, _ => rfl
  | x :: r, hs, hl => by
    have hx : x < B := hs x (by simp)
    have hr : Small B r := fun y hy => hs y (by simp [hy])
    have hrl : ∀ h : r ≠ [], r.getLast h ≠ 0 := fun h => by
      have := hl (by simp)
      rwa [List.getLast_cons h] at this
    have ih := limbs_unique hB r hr hrl
    have hv : x + B * lval B r ≠ 0 := by
      by_cases hn : r = []
      · subst hn
        have := hl (by simp)
        simp only [List.getLast_singleton] at this
        omega
      · have h0 : lval B r ≠ 0 := fun e => hn (by rw [ih, e]; rfl)
        have : 0 < B * lval B r := Nat.mul_pos (by omega) (by omega)
        omega
    simp only [lval]
    rw [limbs_step hB hv, Nat.add_mul_mod_self_left, Nat.mod_eq_of_lt hx, Nat.add_mul_div_left _ _ (by omega), Nat.div_eq_of_lt hx, Nat.zero_add, ← ih]

theorem trimZ_snoc_zero (l : List Nat) : trimZ (l ++ [0]) = trimZ l := by simp [trimZ]
theorem trimZ_snoc {x : Nat} (hx : x ≠ 0) (l : List Nat) : trimZ (l ++ [x]) = l ++ [x] := by
  simp [trimZ, hx]
theorem lval_zero_snoc (B : Nat) (l : List Nat) : lval B (l ++ [0]) = lval B l := by simp [lval_append, lval]
theorem trimZ_limbs {B : Nat} (hB : 2 ≤ B) (l : List Nat) (hs : Small B l) : trimZ l = limbs B (lval B l) := by
  induction hk : l.length generalizing l with
  | zero => obtain rfl : l = [] := List.eq_nil_of_length_eq_zero hk
            rfl
  | succ k ih =>
    obtain ⟨r, x, rfl⟩ : ∃ r x, l = r ++ [x] := ⟨l.dropLast, l.getLast (by intro e; subst e; simp at hk), (List.dropLast_concat_getLast _).symm⟩
    by_cases hx : x = 0
    · subst hx
      rw [trimZ_snoc_zero, lval_zero_snoc, ih r (fun y hy => hs y (by simp [hy])) (by simpa using hk)]
    · rw [trimZ_snoc hx]
      exact limbs_unique hB _ hs (fun h => by simpa using hx)
theorem limbs_lt_length {B n k : Nat} (hB : 2 ≤ B) (h : n < B ^ k) : (limbs B n).length ≤ k := by
  induction k generalizing n with
  | zero => simp at h; subst h; simp [limbs_zero]
  | succ k ih =>
    by_cases hn : n = 0
    · subst hn; simp [limbs_zero]
    · rw [limbs_step hB hn, List.length_cons]
      have : n / B < B ^ k := Nat.div_lt_of_lt_mul (by rw [Nat.pow_succ, Nat.mul_comm] at h; exact h)
      have := ih this
      omega
/-! ### Bytes that are digits -/
def dig (c : UInt8) : Bool := decide (48 ≤ c.toNat) && decide (c.toNat ≤ 57)
def digs (l : List UInt8) : Bool := l.all dig
def nval (l : List UInt8) : Nat := l.foldl (fun a c => a * 10 + (c.toNat - 48)) 0
theorem foldl_nval (l : List UInt8) : ∀ a : Nat, l.foldl (fun a c => a * 10 + (c.toNat - 48)) a = a * 10 ^ l.length + nval l := by
  induction l with
  | nil => intro a; simp [nval]
  | cons c l ih =>
    intro a
    simp only [List.foldl_cons, nval, List.length_cons]
    rw [ih (a * 10 + (c.toNat - 48)), ih (0 * 10 + (c.toNat - 48)), Nat.pow_succ, Nat.add_mul, Nat.mul_assoc, Nat.mul_comm 10]
    simp only [Nat.zero_mul, Nat.zero_add]
    omega
theorem nval_append (l r : List UInt8) : nval (l ++ r) = nval l * 10 ^ r.length + nval r := by
  unfold nval
  rw [List.foldl_append, foldl_nval]
  rfl
theorem nval_nil : nval [] = 0 := rfl
theorem nval_one (c : UInt8) : nval [c] = c.toNat - 48 := by simp [nval]
theorem snoc_ind {α : Type} {motive : List α → Prop} (nil : motive []) (snoc : ∀ l c, motive l → motive (l ++ [c])) : ∀ l, motive l := by
  intro l
  rw [← List.reverse_reverse l]
  induction l.reverse with
  | nil => exact nil
  | cons c r ih => rw [List.reverse_cons]; exact snoc _ _ ih
theorem nval_lt (l : List UInt8) (h : digs l = true) : nval l < 10 ^ l.length := by
  induction l using snoc_ind with
  | nil => simp [nval]
  | snoc l c ih =>
    have hc : dig c = true := by simp [digs] at h; exact h.2
    have hl : digs l = true := by simp [digs] at h ⊢; exact h.1
    have := ih hl
    rw [nval_append, nval_one, List.length_append, List.length_singleton, Nat.pow_succ]
    simp [dig] at hc
    omega

/-! ### The numeral -/
theorem decDigits_small {u : Nat} (h : u < 10) : decDigits u = [UInt8.ofNat (48 + u)] := by rw [decDigits, dif_pos h]
theorem decDigits_big {u : Nat} (h : ¬ u < 10) : decDigits u = decDigits (u / 10) ++ [UInt8.ofNat (48 + u % 10)] := by rw [decDigits, dif_neg h]
theorem ofNat_toNat {d : Nat} (h : d < 10) : (UInt8.ofNat (48 + d)).toNat = 48 + d := by
  rw [UInt8.toNat_ofNat']
  omega
theorem dig_ofNat {d : Nat} (h : d < 10) : dig (UInt8.ofNat (48 + d)) = true := by
  simp only [dig, ofNat_toNat h, Bool.and_eq_true, decide_eq_true_eq]
  omega
theorem digs_decDigits (u : Nat) : digs (decDigits u) = true := by
  induction u using Nat.strongRecOn with
  | _ u ih =>
    by_cases h : u < 10
    · rw [decDigits_small h, digs, List.all_cons, dig_ofNat h]; rfl
    · rw [decDigits_big h]
      have := ih (u / 10) (by omega)
      have h2 := dig_ofNat (d := u % 10) (by omega)
      simp only [digs, List.all_append, Bool.and_eq_true] at this ⊢
      exact ⟨this, by rw [List.all_cons, h2]; rfl⟩
theorem nval_decDigits (u : Nat) : nval (decDigits u) = u := by
  induction u using Nat.strongRecOn with
  | _ u ih =>
    by_cases h : u < 10
    · rw [decDigits_small h, nval_one, ofNat_toNat h]; omega
    · rw [decDigits_big h, nval_append, ih (u / 10) (by omega), nval_one, ofNat_toNat (by omega)]
      simp only [List.length_singleton, Nat.pow_one]
      omega
theorem decDigits_head {u : Nat} (hu : u ≠ 0) : ∃ c r, decDigits u = c :: r ∧ c.toNat ≠ 48 := by
  induction u using Nat.strongRecOn with
  | _ u ih =>
    by_cases h : u < 10
    · exact ⟨_, _, decDigits_small h, by rw [ofNat_toNat h]; omega⟩
    · obtain ⟨c, r, e, hc⟩ := ih (u / 10) (by omega) (by omega)
      exact ⟨c, r ++ [UInt8.ofNat (48 + u % 10)], by rw [decDigits_big h, e]; rfl, hc⟩
theorem digs_snoc {l : List UInt8} {c : UInt8} : digs (l ++ [c]) = true ↔ digs l = true ∧ dig c = true := by
  simp [digs, List.all_append]
theorem digs_append {l r : List UInt8} : digs (l ++ r) = true ↔ digs l = true ∧ digs r = true := by
  simp [digs, List.all_append]
theorem byte_of_dig {c : UInt8} (h : dig c = true) : c = UInt8.ofNat (48 + (c.toNat - 48)) := by
  simp only [dig, Bool.and_eq_true, decide_eq_true_eq] at h
  rw [Nat.add_sub_cancel' h.1, UInt8.ofNat_toNat]
/-- digits without a zero ahead are the numeral of what they spell -/
theorem decDigits_nval (l : List UInt8) : digs l = true → (∃ c r, l = c :: r ∧ c.toNat ≠ 48) → decDigits (nval l) = l ∧ nval l ≠ 0 := by
  induction l using snoc_ind with
  | nil => rintro _ ⟨c, r, h, _⟩; cases h
  | snoc l d ih =>
    intro hd hh
    obtain ⟨hl, hc⟩ := digs_snoc.1 hd
    have hcc := hc
    simp only [dig, Bool.and_eq_true, decide_eq_true_eq] at hcc
    by_cases hn : l = []
    · subst hn
      obtain ⟨c, r, h, h48⟩ := hh
      simp only [List.nil_append, List.cons.injEq] at h
      obtain ⟨rfl, rfl⟩ := h
      simp only [List.nil_append, nval_one]
      refine ⟨?_, by omega⟩
      rw [decDigits_small (by omega), ← byte_of_dig hc]
    · obtain ⟨c, r, h, h48⟩ := hh
      have hl' : ∃ c r, l = c :: r ∧ c.toNat ≠ 48 := by
        cases l with
        | nil => exact absurd rfl hn
        | cons x t => simp only [List.cons_append, List.cons.injEq] at h
                      exact ⟨x, t, rfl, by rw [h.1]; exact h48⟩
      obtain ⟨e, hz⟩ := ih hl hl'
      rw [nval_append, nval_one, List.length_singleton, Nat.pow_one]
      refine ⟨?_, by omega⟩
      rw [decDigits_big (by omega)]
      have h1 : (nval l * 10 + (d.toNat - 48)) / 10 = nval l := by omega
      have h2 : (nval l * 10 + (d.toNat - 48)) % 10 = d.toNat - 48 := by omega
      rw [h1, h2, e, ← byte_of_dig hc]

/-! ### Decimals -/
/-- the digits behind a sign -/
def mag : List UInt8 → List UInt8
  | [] => []
  | c :: r => if c = 45 then r else c :: r
def neg : List UInt8 → Bool
  | [] => false
  | c :: _ => c == 45
def isDec (s : List UInt8) : Bool := s == [48] || (match mag s with | [] => false | c :: r => c != 48 && digs (c :: r))
def dval (s : List UInt8) : Int := if isDec s then (if neg s then -(nval (mag s) : Int) else nval (mag s)) else 0
theorem neg_cons45 (r : List UInt8) : neg (45 :: r) = true := by simp [neg]
theorem mag_cons45 (r : List UInt8) : mag (45 :: r) = r := by simp [mag]
theorem mag_of_not {s : List UInt8} (h : neg s = false) : mag s = s := by
  cases s with
  | nil => rfl
  | cons c r => simp [neg] at h; simp [mag, h]
theorem cons_of_neg {s : List UInt8} (h : neg s = true) : s = 45 :: mag s := by
  cases s with
  | nil => simp [neg] at h
  | cons c r => simp [neg] at h; subst h; simp [mag]
theorem isDec_iff {s : List UInt8} (h0 : s ≠ [48]) : isDec s = true ↔ (digs (mag s) = true ∧ ∃ c r, mag s = c :: r ∧ c.toNat ≠ 48) := by
  have hb : (s == [48]) = false := by simpa using h0
  unfold isDec
  rw [hb, Bool.false_or]
  cases hm : mag s with
  | nil => simp
  | cons c r =>
    simp only [Bool.and_eq_true, bne_iff_ne, ne_eq, List.cons.injEq]
    constructor
    · rintro ⟨h1, h2⟩
      refine ⟨h2, c, r, ⟨rfl, rfl⟩, fun e => h1 ?_⟩
      exact UInt8.toNat_inj.1 (by simpa using e)
    · rintro ⟨h2, c', r', ⟨rfl, rfl⟩, h1⟩
      exact ⟨fun e => h1 (by subst e; rfl), h2⟩
theorem itoa_zero : itoa 0 = [48] := by decide +kernel
theorem itoa_pos {u : Nat} : itoa (u : Int) = decDigits u := by simp [itoa]
theorem itoa_neg' {u : Nat} (h : u ≠ 0) : itoa (-(u : Int)) = 45 :: decDigits u := by
  rw [itoa, if_pos (by omega)]
  simp
theorem head_ne45 {c : UInt8} {r : List UInt8} (h : digs (c :: r) = true) : c ≠ 45 := by
  rintro rfl
  simp [digs, dig] at h
theorem dval_zero : dval [48] = 0 := by decide
/-- a decimal is the numeral of its value -/
theorem itoa_dval {s : List UInt8} (h : isDec s = true) : itoa (dval s) = s := by
  by_cases h0 : s = [48]
  · subst h0; rw [dval_zero, itoa_zero]
  · obtain ⟨hd, hh⟩ := (isDec_iff h0).1 h
    obtain ⟨e, hz⟩ := decDigits_nval _ hd hh
    unfold dval
    rw [if_pos h]
    cases hn : neg s with
    | true => rw [if_pos rfl, itoa_neg' hz, e]; exact (cons_of_neg hn).symm
    | false => rw [if_neg (by simp), itoa_pos, e, mag_of_not hn]
theorem isDec_itoa (n : Int) : isDec (itoa n) = true := by
  by_cases hz : n = 0
  · subst hz; rw [itoa_zero]; rfl
  · by_cases hn : n < 0
    · obtain ⟨u, rfl⟩ : ∃ u : Nat, n = -(u : Int) := ⟨n.natAbs, by omega⟩
      have hu : u ≠ 0 := by omega
      obtain ⟨c, r, e, hc⟩ := decDigits_head hu
      rw [itoa_neg' hu]
      refine (isDec_iff (by intro h; simp at h)).2 ?_
      rw [mag_cons45]
      exact ⟨digs_decDigits u, c, r, e, hc⟩
    · obtain ⟨u, rfl⟩ : ∃ u : Nat, n = (u : Int) := ⟨n.toNat, by omega⟩
      have hu : u ≠ 0 := by omega
      obtain ⟨c, r, e, hc⟩ := decDigits_head hu
      have hd := digs_decDigits u
      rw [itoa_pos]
      have hm : mag (decDigits u) = decDigits u := by
        rw [e] at hd ⊢
        simp [mag, head_ne45 hd]
      refine (isDec_iff ?_).2 ?_
      · intro h; rw [e] at h; simp only [List.cons.injEq] at h; exact hc (by rw [h.1]; rfl)
      · rw [hm]; exact ⟨hd, c, r, e, hc⟩
theorem dval_itoa (n : Int) : dval (itoa n) = n := by
  unfold dval
  rw [if_pos (isDec_itoa n)]
  by_cases hz : n = 0
  · subst hz; rw [itoa_zero]; rfl
  · by_cases hn : n < 0
    · obtain ⟨u, rfl⟩ : ∃ u : Nat, n = -(u : Int) := ⟨n.natAbs, by omega⟩
      have hu : u ≠ 0 := by omega
      rw [itoa_neg' hu, neg_cons45, mag_cons45, nval_decDigits]
      rfl
    · obtain ⟨u, rfl⟩ : ∃ u : Nat, n = (u : Int) := ⟨n.toNat, by omega⟩
      have hu : u ≠ 0 := by omega
      obtain ⟨c, r, e, hc⟩ := decDigits_head hu
      have hd := digs_decDigits u
      rw [itoa_pos]
      have hng : neg (decDigits u) = false := by
        rw [e] at hd ⊢
        simp [neg, head_ne45 hd]
      rw [hng, mag_of_not hng, nval_decDigits]
      rfl
theorem itoa_inj {a b : Int} (h : itoa a = itoa b) : a = b := by rw [← dval_itoa a, h, dval_itoa]
end Go.Proofs.YtlbbfmijemnjdaaGreatDoor.Dec
/- What the loops over limbs do to the value of a list: plain arithmetic, one lemma a loop's round. -/
namespace Go.Proofs.YtlbbfmijemnjdaaGreatDoor.Dec
open Go Go.Lib

theorem lval_take_succ (B : Nat) (l : List Nat) (i : Nat) : lval B (l.take (i + 1)) = lval B (l.take i) + B ^ i * l.getD i 0 := by
  by_cases h : i < l.length
  · rw [List.take_succ_eq_append_getElem h, lval_append, List.length_take, Nat.min_eq_left (by omega), List.getD_eq_getElem?_getD, List.getElem?_eq_getElem h]
    simp [lval]
  · rw [List.take_of_length_le (by omega), List.take_of_length_le (by omega), List.getD_eq_getElem?_getD, List.getElem?_eq_none (by omega)]
    simp
theorem lval_snoc (B : Nat) (l : List Nat) (x : Nat) : lval B (l ++ [x]) = lval B l + B ^ l.length * x := by
  rw [lval_append]; simp [lval]
theorem lval_drop (B : Nat) (l : List Nat) (i : Nat) (h : i < l.length) : lval B (l.drop i) = l.getD i 0 + B * lval B (l.drop (i + 1)) := by
  rw [List.drop_eq_getElem_cons h, lval, List.getD_eq_getElem?_getD, List.getElem?_eq_getElem h]; rfl
theorem lval_set (B : Nat) : ∀ (l : List Nat) (k v : Nat), k < l.length → lval B (l.set k v) + B ^ k * l.getD k 0 = lval B l + B ^ k * v
  | [], _, _, h => by simp at h
  | x :: r, 0, v, _ => by simp [lval]; omega
  | x :: r, k + 1, v, h => by
    have ih := lval_set B r k v (by simpa using h)
    simp only [List.set_cons_succ, lval, List.getD_cons_succ, Nat.pow_succ]
    have e : B * lval B (r.set k v) + B * (B ^ k * r.getD k 0) = B * lval B r + B * (B ^ k * v) := by rw [← Nat.mul_add, ih, Nat.mul_add]
    rw [Nat.mul_comm (B ^ k) B, Nat.mul_assoc, Nat.mul_assoc]
    omega
theorem Small.set {B : Nat} {l : List Nat} {k v : Nat} (h : Small B l) (hv : v < B) : Small B (l.set k v) := by
  intro x hx
  rcases List.mem_or_eq_of_mem_set hx with hx | rfl
  · exact h x hx
  · exact hv

/-- a round of plus -/
theorem plus_round {B : Nat} {a b o : List Nat} {i c n : Nat} (ho : o.length = i)
    (h : lval B o + B ^ i * c = lval B (a.take i) + lval B (b.take i)) (hn : n = a.getD i 0 + c + b.getD i 0) :
    lval B (o ++ [n % B]) + B ^ (i + 1) * (n / B) = lval B (a.take (i + 1)) + lval B (b.take (i + 1)) := by
  rw [lval_take_succ, lval_take_succ, lval_snoc, ho, Nat.pow_succ, Nat.mul_assoc, Nat.add_assoc, ← Nat.mul_add, Nat.mod_add_div, hn]
  have : B ^ i * (a.getD i 0 + c + b.getD i 0) = B ^ i * a.getD i 0 + B ^ i * c + B ^ i * b.getD i 0 := by rw [Nat.mul_add, Nat.mul_add]
  omega
/-- a round of minus: 'n' is the new digit, 'd' what is borrowed of the next place -/
theorem minus_round {B : Nat} {a b o : List Nat} {i c d n : Nat} (ho : o.length = i)
    (h : lval B (a.take i) + B ^ i * c = lval B o + lval B (b.take i)) (hn : a.getD i 0 + B * d = n + c + b.getD i 0) :
    lval B (a.take (i + 1)) + B ^ (i + 1) * d = lval B (o ++ [n]) + lval B (b.take (i + 1)) := by
  rw [lval_take_succ, lval_take_succ, lval_snoc, ho, Nat.pow_succ, Nat.mul_assoc]
  have : B ^ i * (a.getD i 0 + B * d) = B ^ i * (n + c + b.getD i 0) := by rw [hn]
  rw [Nat.mul_add, Nat.mul_add, Nat.mul_add] at this
  omega
/-- a round of the inner loop of times -/
theorem times_round {B : Nat} {o o' b : List Nat} {x i j c n s : Nat} (hk : i + j < o.length)
    (h : lval B o + B ^ (i + j) * c = s + B ^ i * (x * lval B (b.take j))) (hn : n = o.getD (i + j) 0 + x * b.getD j 0 + c) (ho : o' = o.set (i + j) (n % B)) :
    lval B o' + B ^ (i + (j + 1)) * (n / B) = s + B ^ i * (x * lval B (b.take (j + 1))) := by
  have h1 := lval_set B o (i + j) (n % B) hk
  have h2 : B ^ (i + (j + 1)) = B ^ (i + j) * B := by rw [← Nat.add_assoc, Nat.pow_succ]
  have h3 : B ^ (i + j) * (n % B) + B ^ (i + j) * B * (n / B) = B ^ (i + j) * n := by rw [Nat.mul_assoc, ← Nat.mul_add, Nat.mod_add_div]
  have h4 : B ^ (i + j) * n = B ^ (i + j) * o.getD (i + j) 0 + B ^ (i + j) * (x * b.getD j 0) + B ^ (i + j) * c := by rw [hn, Nat.mul_add, Nat.mul_add]
  have h5 : B ^ i * (x * (lval B (b.take j) + B ^ j * b.getD j 0)) = B ^ i * (x * lval B (b.take j)) + B ^ (i + j) * (x * b.getD j 0) := by
    rw [Nat.pow_add]; grind
  rw [ho, h2, lval_take_succ, h5]
  omega
/-- the number that a round of times makes stays below the square -/
theorem times_fits {B o x y c : Nat} (hB : 2 ≤ B) (ho : o < B) (hx : x < B) (hy : y < B) (hc : c < B) : o + x * y + c < B * B := by
  obtain ⟨b, rfl⟩ : ∃ b, B = b + 1 := ⟨B - 1, by omega⟩
  have h : x * y ≤ b * b := Nat.mul_le_mul (by omega) (by omega)
  have : (b + 1) * (b + 1) = b * b + 2 * b + 1 := by grind
  omega
/-- the end of an inner loop of times, where the place that takes the carry held 0 -/
theorem times_row {B : Nat} {o b : List Nat} {x i c s : Nat} (hk : i + b.length < o.length) (hz : o.getD (i + b.length) 0 = 0)
    (h : lval B o + B ^ (i + b.length) * c = s + B ^ i * (x * lval B (b.take b.length))) :
    lval B (o.set (i + b.length) c) = s + B ^ i * (x * lval B b) := by
  have h1 := lval_set B o (i + b.length) c hk
  rw [hz] at h1
  rw [List.take_length] at h
  omega
/-- a round of the outer loop of times -/
theorem times_outer {B : Nat} {a b : List Nat} {i s : Nat} (hs : s = lval B (a.take i) * lval B b) :
    s + B ^ i * (a.getD i 0 * lval B b) = lval B (a.take (i + 1)) * lval B b := by
  rw [lval_take_succ, hs]; grind
/-- a round of divide -/
theorem div_round {B b r q A x : Nat} (h : A = q * b + r) :
    x + B * A = ((x + B * r) / b + B * q) * b + (x + B * r) % b := by
  have := Nat.div_add_mod (x + B * r) b
  subst h
  grind
theorem div_digit {B b r x : Nat} (hx : x < B) (hr : r < b) : (x + B * r) / b < B := by
  apply Nat.div_lt_of_lt_mul
  have : B * (r + 1) ≤ B * b := Nat.mul_le_mul_left B hr
  rw [Nat.mul_comm b B]
  rw [Nat.mul_add] at this
  omega
theorem limbs_length_mono {B a b : Nat} (hB : 2 ≤ B) (h : b ≤ a) : (limbs B b).length ≤ (limbs B a).length := by
  apply limbs_lt_length hB
  have := lval_lt (B := B) (by omega) (limbs_small hB a)
  rw [lval_limbs hB] at this
  omega
theorem lt_of_length_lt {B a b : Nat} (hB : 2 ≤ B) (h : (limbs B a).length < (limbs B b).length) : a < b := by
  have h1 := limbs_length_mono (B := B) (a := a) (b := b) hB
  rcases Nat.lt_or_ge a b with h2 | h2
  · exact h2
  · have := h1 h2; omega
/-- comparing from the last place on -/
theorem lval_lt_of_top {B : Nat} {a b : List Nat} {i : Nat} (ha : Small B a) (hB : 2 ≤ B) (hla : i < a.length) (hl : a.length = b.length)
    (he : a.drop (i + 1) = b.drop (i + 1)) (hlt : a.getD i 0 < b.getD i 0) : lval B a < lval B b := by
  have e1 : lval B a = lval B (a.take i) + B ^ i * lval B (a.drop i) := by
    have := lval_append B (a.take i) (a.drop i)
    rwa [List.take_append_drop, List.length_take, Nat.min_eq_left (by omega)] at this
  have e2 : lval B b = lval B (b.take i) + B ^ i * lval B (b.drop i) := by
    have := lval_append B (b.take i) (b.drop i)
    rwa [List.take_append_drop, List.length_take, Nat.min_eq_left (by omega)] at this
  rw [e1, e2, lval_drop B a i hla, lval_drop B b i (by omega), he]
  have h1 := lval_lt (B := B) (by omega) (ha.take i)
  rw [List.length_take, Nat.min_eq_left (by omega)] at h1
  have h2 : B ^ i * (a.getD i 0 + 1 + B * lval B (b.drop (i + 1))) ≤ B ^ i * (b.getD i 0 + B * lval B (b.drop (i + 1))) := Nat.mul_le_mul_left _ (by omega)
  rw [Nat.mul_add, Nat.mul_add] at h2
  rw [Nat.mul_add]
  omega

/-! ### Numerals and limbs -/
def pad9 (b : Nat) : List UInt8 := List.replicate (9 - (decDigits b).length) 48 ++ decDigits b
theorem nval_replicate (k : Nat) : nval (List.replicate k 48) = 0 := by
  induction k with
  | zero => rfl
  | succ k ih =>
    rw [List.replicate_succ', nval_append, ih, nval_one]
    simp
theorem digs_replicate (k : Nat) : digs (List.replicate k 48) = true := by
  simp [digs, dig]
theorem nDigits_le_of_lt {k u : Nat} (hk : 1 ≤ k) (h : u < 10 ^ k) : nDigits u ≤ k := by
  induction u using Nat.strongRecOn generalizing k with
  | _ u ih =>
    by_cases h10 : u < 10
    · rw [nDigits_small h10]; exact hk
    · rw [nDigits_big h10]
      obtain ⟨m, rfl⟩ : ∃ m, k = m + 1 := ⟨k - 1, by omega⟩
      rw [Nat.pow_succ] at h
      by_cases hm : m = 0
      · subst hm; simp at h; omega
      · have := ih (u / 10) (by omega) (k := m) (by omega) (by omega)
        omega
theorem decDigits_length_le {k u : Nat} (hk : 1 ≤ k) (h : u < 10 ^ k) : (decDigits u).length ≤ k := by
  rw [decDigits_length]; exact nDigits_le_of_lt hk h
theorem pad9_length {b : Nat} (h : b < 1000000000) : (pad9 b).length = 9 := by
  have := decDigits_length_le (k := 9) (u := b) (by omega) (by simpa using h)
  simp [pad9]
  omega
theorem nval_pad9 (b : Nat) : nval (pad9 b) = b := by
  rw [pad9, nval_append, nval_replicate, nval_decDigits]; simp
theorem digs_pad9 (b : Nat) : digs (pad9 b) = true := digs_append.2 ⟨digs_replicate _, digs_decDigits b⟩
theorem decDigits_cat {a b : Nat} (ha : a ≠ 0) (hb : b < 1000000000) : decDigits (b + 1000000000 * a) = decDigits a ++ pad9 b := by
  obtain ⟨c, r, e, hc⟩ := decDigits_head ha
  have h := (decDigits_nval (decDigits a ++ pad9 b) (digs_append.2 ⟨digs_decDigits a, digs_pad9 b⟩) ⟨c, r ++ pad9 b, by rw [e]; rfl, hc⟩).1
  rw [nval_append, nval_decDigits, nval_pad9, pad9_length hb] at h
  rw [← h]
  congr 1
  omega
/-- the digits of a list of bytes, the last one first -/
def revDigs (l : List UInt8) : List Nat := l.reverse.map fun c => c.toNat - 48
theorem lval_revDigs (l : List UInt8) : lval 10 (revDigs l) = nval l := by
  induction l using snoc_ind with
  | nil => rfl
  | snoc l c ih =>
    rw [nval_append, nval_one, ← ih]
    simp only [revDigs, List.reverse_append, List.reverse_singleton, List.singleton_append, List.map_cons, lval, List.length_singleton, Nat.pow_one]
    omega
theorem small_revDigs {l : List UInt8} (h : digs l = true) : Small 10 (revDigs l) := by
  intro x hx
  simp only [revDigs, List.mem_map, List.mem_reverse] at hx
  obtain ⟨c, hc, rfl⟩ := hx
  have := List.all_eq_true.1 h c hc
  simp only [dig, Bool.and_eq_true, decide_eq_true_eq] at this
  omega
theorem revDigs_limbs {l : List UInt8} (h : digs l = true) (hh : ∃ c r, l = c :: r ∧ c.toNat ≠ 48) : revDigs l = limbs 10 (nval l) := by
  rw [← lval_revDigs l]
  refine limbs_unique (by omega) _ (small_revDigs h) fun hne => ?_
  obtain ⟨c, r, rfl, hc⟩ := hh
  have hd := List.all_eq_true.1 h c (by simp)
  simp only [dig, Bool.and_eq_true, decide_eq_true_eq] at hd
  simp [revDigs]
  omega
theorem limbs10_decDigits {n : Nat} (hn : n ≠ 0) : (limbs 10 n).reverse.map (fun d => UInt8.ofNat (48 + d)) = decDigits n := by
  induction n using Nat.strongRecOn with
  | _ n ih =>
    rw [limbs_step (by omega) hn, List.reverse_cons, List.map_append]
    by_cases h : n < 10
    · rw [decDigits_small h, Nat.div_eq_of_lt h, limbs_zero, Nat.mod_eq_of_lt h]; rfl
    · rw [decDigits_big h, ih (n / 10) (by omega) (by omega)]; rfl
/-- a round of parse: the last nine digits are cut off -/
theorem parse_round' {B : Nat} {D d e : List UInt8} {x : List Nat} (h : nval D = lval B x + B ^ x.length * nval (d ++ e)) (he : 10 ^ e.length = B ∨ d = []) :
    nval D = lval B (x ++ [nval e]) + B ^ (x.length + 1) * nval d := by
  rw [lval_snoc, h, nval_append, Nat.pow_succ]
  rcases he with he | rfl
  · rw [he, Nat.mul_add, Nat.mul_comm (nval d) B, ← Nat.mul_assoc]; omega
  · simp [nval_nil]
theorem mag_length_le (s : List UInt8) : (mag s).length ≤ s.length := by
  cases s with
  | nil => simp [mag]
  | cons c r => simp only [mag]; split <;> simp
theorem parseUintM_digs : ∀ (l : List UInt8) (M acc : Nat), digs l = true → acc * 10 ^ l.length + nval l ≤ M → M < 18446744073709551616 → parseUintM M acc l = .ok (acc * 10 ^ l.length + nval l)
  | [], M, acc, _, _, _ => by simp [parseUintM, nval]
  | c :: r, M, acc, h, hM, hlt => by
    have hc : dig c = true := by simp [digs] at h; exact h.1
    have hr : digs r = true := by simp [digs] at h ⊢; exact h.2
    simp only [dig, Bool.and_eq_true, decide_eq_true_eq] at hc
    have e : nval (c :: r) = (c.toNat - 48) * 10 ^ r.length + nval r := by
      have := nval_append [c] r
      rwa [nval_one] at this
    have e2 : acc * 10 ^ (c :: r).length + nval (c :: r) = (acc * 10 + (c.toNat - 48)) * 10 ^ r.length + nval r := by
      rw [e, List.length_cons, Nat.pow_succ]; grind
    have hp : 1 ≤ 10 ^ r.length := Nat.one_le_pow _ _ (by omega)
    have hle : acc * 10 + (c.toNat - 48) ≤ M := by
      have : (acc * 10 + (c.toNat - 48)) * 1 ≤ (acc * 10 + (c.toNat - 48)) * 10 ^ r.length := Nat.mul_le_mul_left _ hp
      omega
    rw [parseUintM, if_pos hc, if_neg (by omega), if_neg (by omega), parseUintM_digs r M _ hr (by omega) hlt, e2]
theorem parseUint32 {l : List UInt8} (h : digs l = true) (h0 : l ≠ []) (h9 : l.length ≤ 9) : parseUintB 32 l = .ok (nval l) := by
  have h1 := nval_lt l h
  have h2 : 10 ^ l.length ≤ 10 ^ 9 := Nat.pow_le_pow_right (by omega) h9
  rw [parseUintB, if_neg h0, parseUintM_digs l _ 0 h (by simp; omega) (by decide)]
  simp
end Go.Proofs.YtlbbfmijemnjdaaGreatDoor.Dec
/- A slice of integers that reads as a list of natural numbers: nil, empty or not. -/
namespace Go.Proofs.YtlbbfmijemnjdaaGreatDoor
open Go.RowKit

/-- the slice value '.slice A n c' reads as the list l of numbers of kind k -/
structure Sl (w : World) (k : IntKind) (A : Option Addr) (n c : Nat) (l : List Nat) : Prop where
  len : l.length = n
  cap : n ≤ c
  cells : 0 < n → ∃ b o, A = some ⟨b, o, none⟩ ∧ b < w.heap.size ∧ ∀ i, i < n → w.cell? ⟨b, o + i, none⟩ = some (.int k (l.getD i 0 : Nat))

section
variable {w w' : World} {k : IntKind} {A : Option Addr} {n c : Nat} {l : List Nat}
theorem Sl.nil (w : World) (k : IntKind) (A : Option Addr) (c : Nat) : Sl w k A 0 c [] := ⟨rfl, Nat.zero_le _, fun h => absurd h (by omega)⟩
theorem Sl.below (h : Sl w k A n c l) (hb : Below w.heap.size w w') : Sl w' k A n c l :=
  ⟨h.len, h.cap, fun hn => by
    obtain ⟨b, o, e, hlt, hc⟩ := h.cells hn
    exact ⟨b, o, e, Nat.lt_of_lt_of_le hlt hb.size, fun i hi => (hb.cell (p := ⟨b, o + i, none⟩) hlt).trans (hc i hi)⟩⟩
theorem Sl.take (h : Sl w k A n c l) {m : Nat} (hm : m ≤ n) : Sl w k A m c (l.take m) :=
  ⟨by rw [List.length_take, h.len]; omega, Nat.le_trans hm h.cap, fun h0 => by
    obtain ⟨b, o, e, hlt, hc⟩ := h.cells (by omega)
    refine ⟨b, o, e, hlt, fun i hi => ?_⟩
    rw [hc i (by omega), List.getD_eq_getElem?_getD, List.getD_eq_getElem?_getD, List.getElem?_take_of_lt hi]⟩
theorem Sl.drew (h : Sl w k A n c l) (m : Nat) : Sl (w.drewN m) k A n c l := ⟨h.len, h.cap, h.cells⟩
end
theorem below_drewN {B : Nat} {a w : World} (h : Below B a w) (n : Nat) : Below B a (w.drewN n) := ⟨h.os, h.tape, h.output, h.size, h.block⟩
theorem ex_drew2 (w : World) (a b : Nat) : ∃ k, (w.drewN a).drewN b = w.drewN k := ⟨a + b, by rw [World.drewN_drewN]⟩
theorem ex_drew3 (w : World) (a b c : Nat) : ∃ k, ((w.drewN a).drewN b).drewN c = w.drewN k := ⟨a + b + c, by rw [World.drewN_drewN, World.drewN_drewN, Nat.add_assoc]⟩
/-- a call hands back a slice that reads as l; what lay there before stands -/
def RetSl (k : IntKind) (l : List Nat) (w : World) (e : Ending) (w' : World) : Prop := ∃ A n c, e = .returned (.slice A n c) ∧ Sl w' k A n c l ∧ Below w.heap.size w w' ∧ ∀ b o, A = some ⟨b, o, none⟩ → w.heap.size ≤ b
end Go.Proofs.YtlbbfmijemnjdaaGreatDoor
/- number.trim: the slice without the zero limbs at its end. -/
namespace Go.Proofs.YtlbbfmijemnjdaaGreatDoor
open Go.RowKit

theorem trimZ_take (l : List Nat) : l.take (Dec.trimZ l).length = Dec.trimZ l := by
  induction l using Dec.snoc_ind with
  | nil => rfl
  | snoc l c ih =>
    by_cases hc : c = 0
    · subst hc
      rw [Dec.trimZ_snoc_zero, List.take_append_of_le_length, ih]
      have := congrArg List.length ih
      rw [List.length_take] at this
      omega
    · rw [Dec.trimZ_snoc hc, List.take_length]
theorem trimZ_length_le (l : List Nat) : (Dec.trimZ l).length ≤ l.length := by
  have := congrArg List.length (trimZ_take l)
  rw [List.length_take] at this
  omega
theorem trimZ_step {l : List Nat} {m : Nat} (h0 : 0 < m) (hm : m ≤ l.length) (hz : l.getD (m - 1) 0 = 0) : Dec.trimZ (l.take (m - 1)) = Dec.trimZ (l.take m) := by
  obtain ⟨k, rfl⟩ : ∃ k, m = k + 1 := ⟨m - 1, by omega⟩
  rw [Nat.add_sub_cancel] at hz ⊢
  rw [List.take_succ_eq_append_getElem (by omega)]
  rw [List.getD_eq_getElem?_getD, List.getElem?_eq_getElem (by omega)] at hz
  simp only [Option.getD_some] at hz
  rw [hz, Dec.trimZ_snoc_zero]
theorem trimZ_stop {l : List Nat} {m : Nat} (h0 : 0 < m) (hm : m ≤ l.length) (hz : l.getD (m - 1) 0 ≠ 0) : Dec.trimZ (l.take m) = l.take m := by
  obtain ⟨k, rfl⟩ : ∃ k, m = k + 1 := ⟨m - 1, by omega⟩
  rw [Nat.add_sub_cancel] at hz
  rw [List.take_succ_eq_append_getElem (by omega)]
  rw [List.getD_eq_getElem?_getD, List.getElem?_eq_getElem (by omega)] at hz
  exact Dec.trimZ_snoc hz _
def sliceLen : Value → Nat
  | .slice _ m _ => m
  | _ => 0

set_option maxHeartbeats 400000 in
theorem trim_any (A : Option Addr) (n c : Nat) (l : List Nat) (w : World) (h : Sl w .u32 A n c l) (hn : n ≤ 1000000000) :
    Calls Tryz.prog 158 #[.slice A n c] w fun e w' => e = .returned (.slice A (Dec.trimZ l).length c) ∧ w = w' := by
  have hlen := h.len
  have hcap := h.cap
  go_enter Tryz.func158, Tryz.ntmps158
  go_wp2
  go_loop [0] (fun v => ∃ m : Nat, v = .slice A m c ∧ m ≤ n ∧ Dec.trimZ (l.take m) = Dec.trimZ l) (fun v => sliceLen v)
  case atStart => exact ⟨n, rfl, Nat.le_refl _, by rw [List.take_of_length_le (by omega)]⟩
  case round =>
    obtain ⟨m, rfl, hm, ht⟩ := hrel
    have HT := Lib.hid ht
    clear ht
    by_cases h0 : 0 < m
    · obtain ⟨b, o, rfl, hb, hc⟩ := h.cells (by omega)
      have hcm := hc (m - 1) (by omega)
      clear hc
      go_wp2
      · have hz : l.getD (m - 1) 0 = 0 := by simpa using ‹((l[m - 1]?.getD 0 : Nat) == (0 : Int)) = true›
        exact ⟨⟨m - 1, rfl, by omega, by rw [trimZ_step h0 (by omega) hz]; exact HT.out⟩, by simp only [sliceLen]; omega⟩
      · have hz : l.getD (m - 1) 0 ≠ 0 := by simpa using ‹((l[m - 1]?.getD 0 : Nat) == (0 : Int)) = false›
        go_ret
        refine ⟨?_, rfl⟩
        have e : (Dec.trimZ l).length = m := by
          rw [← HT.out, trimZ_stop h0 (by omega) hz, List.length_take]; omega
        rw [e]; rfl
    · go_wp2
      go_ret
      refine ⟨?_, rfl⟩
      have e : (Dec.trimZ l).length = m := by
        rw [← HT.out, show m = 0 by omega]; rfl
      rw [e]; rfl
/-- the trimmed slice reads as the limbs of the value -/
theorem Sl.trimmed {w : World} {k : IntKind} {A : Option Addr} {n c : Nat} {l : List Nat} (h : Sl w k A n c l) {B : Nat} (hB : 2 ≤ B) (hs : Dec.Small B l) :
    Sl w k A (Dec.trimZ l).length c (Dec.limbs B (Dec.lval B l)) := by
  have h1 := h.take (m := (Dec.trimZ l).length) (by rw [← h.len]; exact trimZ_length_le l)
  rw [trimZ_take] at h1
  rw [← Dec.trimZ_limbs hB l hs]
  exact h1
end Go.Proofs.YtlbbfmijemnjdaaGreatDoor
/- number.compare: compares the values of two lists of limbs. -/
namespace Go.Proofs.YtlbbfmijemnjdaaGreatDoor
open Go.RowKit

def ordI (a b : Nat) : Int := if a < b then -1 else if b < a then 1 else 0
theorem ordI_lt {a b : Nat} (h : a < b) : ordI a b = -1 := by simp [ordI, h]
theorem ordI_gt {a b : Nat} (h : b < a) : ordI a b = 1 := by simp [ordI, h]; omega
theorem ordI_eq (a : Nat) : ordI a a = 0 := by simp [ordI]

theorem drop_pred {x y : List Nat} {k : Nat} (h0 : 0 < k) (hk : k ≤ x.length) (hl : x.length = y.length) (hd : x.drop k = y.drop k) (he : x.getD (k - 1) 0 = y.getD (k - 1) 0) :
    x.drop (k - 1) = y.drop (k - 1) := by
  obtain ⟨m, rfl⟩ : ∃ m, k = m + 1 := ⟨k - 1, by omega⟩
  rw [Nat.add_sub_cancel] at he ⊢
  rw [List.drop_eq_getElem_cons (l := x) (i := m) (by omega), List.drop_eq_getElem_cons (l := y) (i := m) (by omega), hd]
  rw [List.getD_eq_getElem?_getD, List.getD_eq_getElem?_getD, List.getElem?_eq_getElem (by omega), List.getElem?_eq_getElem (by omega)] at he
  simp only [Option.getD_some] at he
  rw [he]
def Cmp (a b : Nat) (w : World) (e : Ending) (w' : World) : Prop := e = .returned (.int .i64 (ordI a b)) ∧ ∃ q, w' = w.drewN q

set_option maxHeartbeats 400000 in
theorem compare_same (B : Nat) (hB : 2 ≤ B) (A A' : Option Addr) (n c c' : Nat) (x y : List Nat) (w : World) (hx : Sl w .u32 A n c x) (hy : Sl w .u32 A' n c' y) (hn : n ≤ 1000000000)
    (hsx : Dec.Small B x) (hsy : Dec.Small B y) :
    Calls Tryz.prog 159 #[.slice A n c, .slice A' n c'] w (Cmp (Dec.lval B x) (Dec.lval B y) w) := by
  have hlx := hx.len
  have hly := hy.len
  have HX := Lib.hid hlx
  have HY := Lib.hid hly
  clear hlx hly
  go_enter Tryz.func159, Tryz.ntmps159
  go_wp2
  go_loopw [5] (fun i wr => ∃ k q : Nat, k ≤ n ∧ i = .int .i64 ((k : Int) - 1) ∧ Hid (x.drop k = y.drop k) ∧ wr = w.drewN q) (fun i _ => (intOf i + 1).toNat)
  case atStart => exact ⟨n, 0, Nat.le_refl _, rfl, (by rw [List.drop_of_length_le (by rw [HX.out]; exact Nat.le_refl _), List.drop_of_length_le (by rw [HY.out]; exact Nat.le_refl _)] : x.drop n = y.drop n), rfl⟩
  case round =>
    obtain ⟨k, q, hk, rfl, HD, rfl⟩ := hrel
    by_cases h0 : 0 < k
    · obtain ⟨b, o, rfl, hb, hc⟩ := hx.cells (by omega)
      obtain ⟨b', o', rfl, hb', hc'⟩ := hy.cells (by omega)
      have hcm := hc (k - 1) (by omega)
      have hcm' := hc' (k - 1) (by omega)
      clear hc hc' hb hb'
      have hi1 : (0 : Int) ≤ (k : Int) - 1 := by omega
      have hi2 : (k : Int) - 1 < n := by omega
      have hi3 : ((k : Int) - 1).toNat = k - 1 := by omega
      generalize hu : x.getD (k - 1) 0 = u at hcm
      generalize hv : y.getD (k - 1) 0 = v at hcm'
      have HU := Lib.hid hu
      have HV := Lib.hid hv
      clear hu hv
      rcases Nat.lt_trichotomy u v with hlt | heq | hgt
      · have e1 : ((u : Int) != v) = true := by rw [bne_iff_ne]; omega
        have e2 : decide ((u : Int) < v) = true := by simp; omega
        go_wp2
        go_quiet (fail)
        go_wp2
        go_quiet (fail)
        go_wp2
        go_ret
        refine ⟨?_, ex_drew3 _ _ _ _⟩
        rw [ordI_lt (Dec.lval_lt_of_top (i := k - 1) hsx hB (by rw [HX.out]; omega) (by rw [HX.out, HY.out]) (by rw [Nat.sub_add_cancel h0]; exact HD.out) (by rw [HU.out, HV.out]; exact hlt))]
        rfl
      · have e1 : ((u : Int) != v) = false := by rw [bne_eq_false_iff_eq]; omega
        go_wp2
        go_quiet (fail)
        go_wp2
        go_roundw
        case rel => exact ⟨k - 1, _, by omega, by go_num, drop_pred h0 (by rw [HX.out]; exact hk) (by rw [HX.out, HY.out]) HD.out (by rw [HU.out, HV.out, heq]), rfl⟩
        case measure => simp only [intOf]; omega
      · have e1 : ((u : Int) != v) = true := by rw [bne_iff_ne]; omega
        have e2 : decide ((u : Int) < v) = false := by simp; omega
        go_wp2
        go_quiet (fail)
        go_wp2
        go_quiet (fail)
        go_wp2
        go_ret
        refine ⟨?_, ex_drew3 _ _ _ _⟩
        rw [ordI_gt (Dec.lval_lt_of_top (i := k - 1) hsy hB (by rw [HY.out]; omega) (by rw [HX.out, HY.out]) (by rw [Nat.sub_add_cancel h0]; exact HD.out.symm) (by rw [HU.out, HV.out]; exact hgt))]
        rfl
    · have hk0 : k = 0 := by omega
      subst hk0
      go_wp2
      go_ret
      refine ⟨?_, _, rfl⟩
      have e : x = y := by simpa using HD.out
      rw [e, ordI_eq]
      rfl

set_option maxHeartbeats 400000 in
theorem compare_any (B : Nat) (hB : 2 ≤ B) (A A' : Option Addr) (n n' c c' a b : Nat) (w : World) (hx : Sl w .u32 A n c (Dec.limbs B a)) (hy : Sl w .u32 A' n' c' (Dec.limbs B b)) (hn : n ≤ 1000000000) (hn' : n' ≤ 1000000000) :
    Calls Tryz.prog 159 #[.slice A n c, .slice A' n' c'] w (Cmp a b w) := by
  rcases Nat.lt_trichotomy n n' with hlt | heq | hgt
  · have e1 : ((n : Int) != n') = true := by rw [bne_iff_ne]; omega
    have hv : a < b := Dec.lt_of_length_lt hB (by rw [hx.len, hy.len]; exact hlt)
    have HV := Lib.hid (ordI_lt hv)
    clear hv hx hy
    go_enter Tryz.func159, Tryz.ntmps159
    go_wp2
    go_ret
    refine ⟨?_, 0, rfl⟩
    rw [HV.out]
    rfl
  · subst heq
    have := compare_same B hB A A' n c c' _ _ w hx hy hn (Dec.limbs_small hB a) (Dec.limbs_small hB b)
    rwa [Dec.lval_limbs hB, Dec.lval_limbs hB] at this
  · have e1 : ((n : Int) != n') = true := by rw [bne_iff_ne]; omega
    have e2 : decide (n < n') = false := by simp; omega
    have hv : b < a := Dec.lt_of_length_lt hB (by rw [hx.len, hy.len]; exact hgt)
    have HV := Lib.hid (ordI_gt hv)
    clear hv hx hy
    go_enter Tryz.func159, Tryz.ntmps159
    go_wp2
    go_ret
    refine ⟨?_, 0, rfl⟩
    rw [HV.out]
    rfl
end Go.Proofs.YtlbbfmijemnjdaaGreatDoor
/- Rows of integers that a call itself has made: append of one element, make, stores; in words of lists of natural numbers. -/
namespace Go.Proofs.YtlbbfmijemnjdaaGreatDoor
open Go.RowKit

/-- the slice '.slice A n c' is the call's own (from block base on) and holds the numbers l -/
structure Own (w : World) (base : Nat) (E : TypeId) (k : IntKind) (A : Option Addr) (n c : Nat) (l : List Nat) : Prop where
  own : w.ownsRow base E 1 (.slice A n c) n (l.map fun x => Value.int k (x : Nat))

section
variable {w w' : World} {base : Nat} {E : TypeId} {k : IntKind} {A : Option Addr} {n c : Nat} {l : List Nat}
theorem Own.len (h : Own w base E k A n c l) : l.length = n := by have := h.own.1; simpa using this
theorem Own.nil (w : World) (base : Nat) (E : TypeId) (k : IntKind) : Own w base E k none 0 0 [] := ⟨World.ownsRow_nil w base E 1⟩
theorem Own.sl (h : Own w base E k A n c l) : Sl w k A n c l := by
  have hlen := h.len
  rcases h.own.2 with ⟨hv, hn⟩ | ⟨g, cap, cur, hv, hbg, hg, hnc, hcm, hcs, ht⟩
  · refine ⟨hlen, by omega, fun h0 => by omega⟩
  · simp only [Value.slice.injEq] at hv
    obtain ⟨rfl, _, rfl⟩ := hv
    refine ⟨hlen, hnc, fun _ => ⟨g, 0, rfl, ?_, fun i hi => ?_⟩⟩
    · rcases Nat.lt_or_ge g w.heap.size with hlt | hge
      · exact hlt
      · rw [Array.getElem?_eq_none hge] at hg; cases hg
    · have e : cur[i]? = some (Value.int k (l.getD i 0 : Nat)) := by
        have h1 : (cur.toList.take (n * 1))[i]? = (l.map fun x => Value.int k (x : Nat))[i]? := by rw [ht]
        rw [List.getElem?_take_of_lt (by omega), List.getElem?_map, List.getElem?_eq_getElem (l := l) (by omega)] at h1
        rw [List.getD_eq_getElem?_getD, List.getElem?_eq_getElem (by omega)]
        simpa using h1
      rw [Nat.zero_add]
      simp [World.cell?, hg, e]
/-- where something is held, it lies in a block of the call's own -/
theorem Own.at_ (h : Own w base E k A n c l) (hn : 0 < n) : ∃ g, A = some ⟨g, 0, none⟩ ∧ base ≤ g ∧ g < w.heap.size ∧ (∀ i, w.frozen? ⟨g, i, none⟩ = false) ∧ ∀ i, i < n → w.cell? ⟨g, i, none⟩ = some (.int k (l.getD i 0 : Nat)) := by
  obtain ⟨b, o, e, hb, hc⟩ := h.sl.cells hn
  rcases h.own.2 with ⟨hv, hn'⟩ | ⟨g, cap, cur, hv, hbg, hg, _⟩
  · omega
  · simp only [Value.slice.injEq] at hv
    obtain ⟨rfl, _, rfl⟩ := hv
    injection e with e
    injection e with e1 e2
    subst e1 e2
    exact ⟨g, rfl, hbg, hb, fun i => by simp [World.frozen?, hg], fun i hi => by have := hc i hi; rwa [Nat.zero_add] at this⟩
theorem Own.keep (h : Own w base E k A n c l) (hk : ∀ g, A = some ⟨g, 0, none⟩ → w'.heap[g]? = w.heap[g]?) : Own w' base E k A n c l := by
  refine ⟨h.own.1, ?_⟩
  rcases h.own.2 with hv | ⟨g, cap, cur, hv, hbg, hg, hr⟩
  · exact .inl hv
  · refine .inr ⟨g, cap, cur, hv, hbg, ?_, hr⟩
    simp only [Value.slice.injEq] at hv
    rw [hk g hv.1]; exact hg
theorem Own.lt (h : Own w base E k A n c l) {g : Nat} (e : A = some ⟨g, 0, none⟩) : base ≤ g ∧ g < w.heap.size := by
  rcases h.own.2 with ⟨hv, _⟩ | ⟨g', cap, cur, hv, hbg, hg, _⟩
  · simp only [Value.slice.injEq] at hv; rw [e] at hv; cases hv.1
  · simp only [Value.slice.injEq] at hv
    obtain ⟨rfl, _, rfl⟩ := hv
    injection e with e
    injection e with e1
    subst e1
    refine ⟨hbg, ?_⟩
    rcases Nat.lt_or_ge g' w.heap.size with hlt | hge
    · exact hlt
    · rw [Array.getElem?_eq_none hge] at hg; cases hg
theorem Own.below (h : Own w base E k A n c l) (hb : Below w.heap.size w w') : Own w' base E k A n c l :=
  h.keep fun g e => hb.block g (h.lt e).2
theorem Own.alloc (h : Own w base E k A n c l) (o : Obj) : Own (w.alloc o) base E k A n c l :=
  h.keep fun g e => Below.heap_alloc w o g (h.lt e).2
theorem Own.drewN (h : Own w base E k A n c l) (m : Nat) : Own (w.drewN m) base E k A n c l := h.keep fun _ _ => rfl
theorem Own.set {g i y : Nat} (h : Own w base E k (some ⟨g, 0, none⟩) n c l) : Own (w.setCell ⟨g, i, none⟩ (.int k (y : Nat))) base E k (some ⟨g, 0, none⟩) n c (l.set i y) := by
  have hlen := h.len
  refine ⟨by simp [hlen], ?_⟩
  rcases h.own.2 with ⟨hv, _⟩ | ⟨g', cap, cur, hv, hbg, hg, hnc, hcm, hcs, ht⟩
  · simp only [Value.slice.injEq] at hv; cases hv.1
  · simp only [Value.slice.injEq] at hv
    obtain ⟨e, _, rfl⟩ := hv
    injection e with e
    injection e with e1
    subst e1
    refine .inr ⟨g, c, cur.setIfInBounds i (.int k (y : Nat)), rfl, hbg, ?_, hnc, hcm, by simpa using hcs, ?_⟩
    · simp [World.setCell, Array.getElem?_modify, hg]
    · rw [Array.toList_setIfInBounds, List.take_set, ht, List.map_set]
end

theorem Own.cellAt {w : World} {base : Nat} {E : TypeId} {k : IntKind} {g n c i : Nat} {l : List Nat} (h : Own w base E k (some ⟨g, 0, none⟩) n c l) (hi : i < n) :
    w.cell? ⟨g, i, none⟩ = some (.int k (l.getD i 0 : Nat)) ∧ w.frozen? ⟨g, i, none⟩ = false ∧ base ≤ g ∧ g < w.heap.size := by
  obtain ⟨g', e, h1, h2, h3, h4⟩ := h.at_ (by omega)
  injection e with e
  injection e with e1
  subst e1
  exact ⟨h4 i hi, h3 i, h1, h2⟩
theorem Own.setInt {w : World} {base : Nat} {E : TypeId} {k : IntKind} {g n c i y : Nat} {l l' : List Nat} {d : Int} (h : Own w base E k (some ⟨g, 0, none⟩) n c l) (hd : d = (y : Int)) (hl : l.set i y = l') :
    Own (w.setCell ⟨g, i, none⟩ (.int k d)) base E k (some ⟨g, 0, none⟩) n c l' := by
  subst hd hl
  exact h.set
theorem Own.fresh {w : World} {base : Nat} {E : TypeId} {k : IntKind} {A : Option Addr} {n c : Nat} {l : List Nat} (h : Own w base E k A n c l) : ∀ b o, A = some ⟨b, o, none⟩ → base ≤ b := by
  rintro b o rfl
  rcases h.own.2 with ⟨hv, _⟩ | ⟨g, cap, cur, hv, hbg, _⟩
  · simp only [Value.slice.injEq] at hv; cases hv.1
  · simp only [Value.slice.injEq] at hv
    obtain ⟨e, _⟩ := hv
    injection e with e
    injection e with e1
    subst e1
    exact hbg
theorem set_replicate (o : List Nat) (n k y : Nat) (hk : k < n) (ho : o.length = k) : (o ++ List.replicate (n - k) 0).set k y = (o ++ [y]) ++ List.replicate (n - (k + 1)) 0 := by
  subst ho
  rw [List.set_append_right _ _ (Nat.le_refl _), Nat.sub_self, show n - o.length = (n - (o.length + 1)) + 1 by omega, List.replicate_succ]
  simp

/-- 'append(s, y)': one element onto a row of the call's own -/
theorem wpList_app {P : Program} {w0 W : World} {ops : Array Oper} {rest : List Oper} {o : Oper} {a : Act} {Q : Exit → Act → World → Prop} (hgd : o.guard = none) (s x : Operand) (t : TypeId)
    (ho : o.op = .call { callee := .builtin .append, args := #[s, x], argTypes := #[t, t] })
    (E : TypeId) (k : IntKind) (bytes : Nat) (ht : P.underlying t = some (.slice E)) (hinfo : (P.info? E).map (fun i => (i.zero, i.size, i.bytes)) = some (some (.int k 0), 1, bytes)) (hbytes : bytes ≤ 8)
    (A : Option Addr) (n c : Nat) (l : List Nat) (hs : a.eval s = .slice A n c) (hown : Own W w0.heap.size E k A n c l)
    (d : Int) (y : Nat) (hd : d = (y : Int)) (hx : a.eval x = .slice (some ⟨W.heap.size, 0, none⟩) 1 1) (hn : n ≤ 1000000000000) (hB : Below w0.heap.size w0 W)
    (h : ∀ A' c' w', Own w' w0.heap.size E k A' (n + 1) c' (l ++ [y]) → Below w0.heap.size w0 w' → (∀ g, g < W.heap.size → A ≠ some ⟨g, 0, none⟩ → w'.heap[g]? = W.heap[g]?) → W.heap.size ≤ w'.heap.size → (A' = A ∨ A' = some ⟨W.heap.size + 1, 0, none⟩) →
      wpList P ops Q rest (a.put o.dst (.slice A' (n + 1) c')) w') :
    wpList P ops Q (o :: rest) a (W.alloc (.cells #[.int k d] E)) := by
  subst hd
  obtain ⟨i0, hi0, hz0, hz1, hz2⟩ := info_parts hinfo
  refine wpList_append_own_at (P := P) _ hgd s x t ho w0.heap.size E i0 (.int k 0) 1 bytes ht hi0 hz0 hz1 hz2 rfl (by omega) _ n _ hs (hown.alloc _).own ⟨W.heap.size, 0, none⟩ 1 1 [.int k (y : Int)] hx rfl
    (cell_one_new _ _ _) (by simp [Value.oneCell']) (by unfold maxLen; omega) (by
      have : (n + 1) * bytes ≤ 1000000000001 * 8 := Nat.mul_le_mul (by omega) hbytes
      omega) (by have := hB.size; simp; omega) ?_
  intro v' w' hown' hg _ hat
  have hlt : ∀ g, A = some ⟨g, 0, none⟩ → w0.heap.size ≤ g := fun g e => (hown.lt e).1
  have hown2 : w'.ownsRow w0.heap.size E 1 v' (n + 1) ((l ++ [y]).map fun x => Value.int k (x : Nat)) := by simpa using hown'
  obtain ⟨A', c', rfl⟩ : ∃ A' c', v' = .slice A' (n + 1) c' := by
    rcases hown'.2 with ⟨_, h0⟩ | ⟨g, cap, cur, rfl, _⟩
    · omega
    · exact ⟨_, _, rfl⟩
  have hAn : A = none ∨ ∃ g, A = some ⟨g, 0, none⟩ := by
    rcases hown.own.2 with ⟨hv, _⟩ | ⟨g, cap, cur, hv, _⟩
    · simp only [Value.slice.injEq] at hv; exact .inl hv.1
    · simp only [Value.slice.injEq] at hv; exact .inr ⟨g, hv.1⟩
  have hblk : ∀ g, g < W.heap.size → A ≠ some ⟨g, 0, none⟩ → w'.heap[g]? = W.heap[g]? := fun g hgl hne =>
    (hg.block g (by simp; omega) (fun e => by
      rcases hAn with rfl | ⟨g', rfl⟩
      · simp [Value.ownBlock] at e
      · simp [Value.ownBlock] at e; subst e; exact hne rfl)).trans (Below.heap_alloc W _ g hgl)
  have hsz : W.heap.size ≤ w'.heap.size := by have := hg.size; simp at this; omega
  refine h A' c' w' ⟨hown2⟩ ⟨hg.os.trans hB.os, hg.tape.trans hB.tape, hg.output.trans hB.output, Nat.le_trans hB.size hsz, fun i hi => ?_⟩ hblk hsz ?_
  · exact (hblk i (Nat.lt_of_lt_of_le hi hB.size) (fun e => by have := hlt i e; omega)).trans (hB.block i hi)
  · rcases hown'.2 with ⟨_, h0⟩ | ⟨g, cap, cur, hv, _⟩
    · omega
    · simp only [Value.slice.injEq] at hv
      obtain ⟨rfl, _, rfl⟩ := hv
      rcases hat with e | e
      · rcases hAn with rfl | ⟨g', rfl⟩
        · simp [Value.ownBlock] at e
        · simp [Value.ownBlock] at e; subst e; exact .inl rfl
      · simp [Value.ownBlock] at e; subst e; exact .inr rfl

theorem made_nat (k : IntKind) (n : Nat) : (madeCells (Value.int k 0).cells (n * 1)).toList = (List.replicate n 0).map fun x => Value.int k (x : Nat) := by
  simp only [madeCells, Value.cells, Nat.mul_one]
  apply List.ext_getElem
  · simp
  · intro i h1 h2
    simp [Nat.mod_one]

/-- 'make([]T, n)' -/
theorem wpList_mk {P : Program} {w0 W : World} {ops : Array Oper} {rest : List Oper} {o : Oper} {a : Act} {Q : Exit → Act → World → Prop} (hgd : o.guard = none) (s x : Operand) (t : TypeId) (ho : o.op = Op.makeSlice t s x)
    (E : TypeId) (k : IntKind) (bytes : Nat) (ht : P.underlying t = some (.slice E)) (hinfo : (P.info? E).map (fun i => (i.zero, i.size, i.bytes)) = some (some (.int k 0), 1, bytes)) (hbytes : bytes ≤ 8)
    (kl kc : IntKind) (L C : Int) (n : Nat) (hs : a.eval s = .int kl L) (hx : a.eval x = .int kc C) (hL : L = (n : Int)) (hC : C = (n : Int)) (hn : n ≤ 1000000000000) (hB : Below w0.heap.size w0 W)
    (h : ∀ w', Own w' w0.heap.size E k (some ⟨W.heap.size, 0, none⟩) n n (List.replicate n 0) → Below w0.heap.size w0 w' → Below W.heap.size W w' → W.heap.size < w'.heap.size → wpList P ops Q rest (a.put o.dst (.slice (some ⟨W.heap.size, 0, none⟩) n n)) w') :
    wpList P ops Q (o :: rest) a W := by
  obtain ⟨i0, hi0, hz0, hz1, hz2⟩ := info_parts hinfo
  refine wpList_make_full (P := P) W hgd s x t ho w0.heap.size E i0 (.int k 0) 1 ht hi0 hz0 hz1 kl kc L C n hs hx hL hC (by
    rw [hz2]
    have : bytes * n ≤ 8 * 1000000000000 := Nat.mul_le_mul hbytes hn
    omega) (by unfold maxLen; omega) hB.size ?_
  intro w' hown hg
  rw [made_nat] at hown
  have hb : Below W.heap.size W w' := ⟨hg.os, hg.tape, hg.output, hg.size, fun i hi => hg.block i hi (by simp)⟩
  have hown' : Own w' w0.heap.size E k (some ⟨W.heap.size, 0, none⟩) n n (List.replicate n 0) := ⟨hown⟩
  exact h w' hown' (hB.trans (hb.mono hB.size)) hb (hown'.lt rfl).2
/-- 'make([]T, 0, n)' -/
theorem wpList_mk0 {P : Program} {w0 W : World} {ops : Array Oper} {rest : List Oper} {o : Oper} {a : Act} {Q : Exit → Act → World → Prop} (hgd : o.guard = none) (s x : Operand) (t : TypeId) (ho : o.op = Op.makeSlice t s x)
    (E : TypeId) (k : IntKind) (bytes : Nat) (ht : P.underlying t = some (.slice E)) (hinfo : (P.info? E).map (fun i => (i.zero, i.size, i.bytes)) = some (some (.int k 0), 1, bytes)) (hbytes : bytes ≤ 8)
    (kl kc : IntKind) (C : Int) (n : Nat) (hs : a.eval s = .int kl 0) (hx : a.eval x = .int kc C) (hC : C = (n : Int)) (hn : n ≤ 1000000000000) (hB : Below w0.heap.size w0 W)
    (h : ∀ w', Own w' w0.heap.size E k (some ⟨W.heap.size, 0, none⟩) 0 n [] → Below w0.heap.size w0 w' → Below W.heap.size W w' → W.heap.size < w'.heap.size → wpList P ops Q rest (a.put o.dst (.slice (some ⟨W.heap.size, 0, none⟩) 0 n)) w') :
    wpList P ops Q (o :: rest) a W := by
  obtain ⟨i0, hi0, hz0, hz1, hz2⟩ := info_parts hinfo
  refine wpList_make_own (P := P) W hgd s x t ho w0.heap.size E i0 (.int k 0) 1 ht hi0 hz0 hz1 kl kc C n hs hx hC (by
    rw [hz2]
    have : bytes * n ≤ 8 * 1000000000000 := Nat.mul_le_mul hbytes hn
    omega) (by unfold maxLen; omega) hB.size ?_
  intro w' hown hg
  have hb : Below W.heap.size W w' := ⟨hg.os, hg.tape, hg.output, hg.size, fun i hi => hg.block i hi (by simp)⟩
  have hown' : Own w' w0.heap.size E k (some ⟨W.heap.size, 0, none⟩) 0 n [] := ⟨hown⟩
  exact h w' hown' (hB.trans (hb.mono hB.size)) hb (hown'.lt rfl).2
end Go.Proofs.YtlbbfmijemnjdaaGreatDoor
/- number.plus: the limbs of the sum. -/
namespace Go.Proofs.YtlbbfmijemnjdaaGreatDoor
open Go.RowKit

theorem infoU32 : (Tryz.prog.info? 168).map (fun i => (i.zero, i.size, i.bytes)) = some (some (.int .u32 0), 1, 4) := by kernel_rfl
theorem getD_lt {B : Nat} {l : List Nat} (hs : Dec.Small B l) (hB : 1 ≤ B) (k : Nat) : l.getD k 0 < B := hs.getD hB k

set_option maxHeartbeats 1000000 in
theorem plus_le (A A' : Option Addr) (n n' c c' : Nat) (x y : List Nat) (w : World) (hx : Sl w .u32 A n c x) (hy : Sl w .u32 A' n' c' y) (hn : n ≤ 100000000) (hn' : n' ≤ 100000000)
    (hsx : Dec.Small 1000000000 x) (hsy : Dec.Small 1000000000 y) (hlt : ¬ n < n') :
    Calls Tryz.prog 154 #[.slice A n c, .slice A' n' c'] w (RetSl .u32 (Dec.limbs 1000000000 (Dec.lval 1000000000 x + Dec.lval 1000000000 y)) w) := by
  go_enter Tryz.func154, Tryz.ntmps154
  go_wp2_with (at_make; refine wpList_mk0 (w0 := w) rfl _ _ _ rfl 168 .u32 4 Tryz.underlying174 infoU32 (by omega) _ _ _ (n + 1) rfl rfl (by omega) (by omega) (Below.refl _ _) ?_; intro w1 hown1 hb1 _ _)
  go_loopw [5, 6, 22] (fun out cr ix wr => ∃ (k : Nat) (A2 : Option Addr) (c2 : Nat) (o : List Nat) (cy : Nat), k ≤ n ∧ ix = .int .i64 k ∧ out = .slice A2 k c2 ∧ cr = .int .u32 cy ∧ cy ≤ 1 ∧ Own wr w.heap.size 168 .u32 A2 k c2 o ∧ Dec.Small 1000000000 o ∧ Hid (Dec.lval 1000000000 o + 1000000000 ^ k * cy = Dec.lval 1000000000 (x.take k) + Dec.lval 1000000000 (y.take k)) ∧ Below w.heap.size w wr) (fun _ _ ix _ => n - (intOf ix).toNat)
  case atStart => exact ⟨0, _, _, [], 0, Nat.zero_le _, rfl, rfl, rfl, by omega, hown1, Dec.Small.nil, (by simp [Dec.lval] : Dec.lval 1000000000 [] + 1000000000 ^ 0 * 0 = Dec.lval 1000000000 (x.take 0) + Dec.lval 1000000000 (y.take 0)), hb1⟩
  case round =>
    obtain ⟨k, A2, c2, o, cy, hk, rfl, rfl, rfl, hcy, hown, hso, HV, hb⟩ := hrel
    have HO := Lib.hid hown.len
    by_cases hkn : k < n
    · obtain ⟨b, off, rfl, _, hcx⟩ := (hx.below hb).cells (by omega)
      have hcu := hcx k hkn
      clear hcx
      have hu := getD_lt (l := x) hsx (by omega) k
      by_cases hkm : k < n'
      · obtain ⟨b', off', rfl, _, hcy'⟩ := (hy.below hb).cells (by omega)
        have hcv := hcy' k hkm
        clear hcy'
        have hv := getD_lt (l := y) hsy (by omega) k
        have HR := Lib.hid (Dec.plus_round (a := x) (b := y) HO.out HV.out rfl)
        generalize x.getD k 0 = u at hcu hu HR
        generalize y.getD k 0 = v at hcv hv HR
        go_wp2_with (at_builtin; refine wpList_app (w0 := w) rfl _ _ _ rfl 168 .u32 4 Tryz.underlying174 infoU32 (by omega) _ _ _ o rfl hown _ ((u + cy + v) % 1000000000) (by omega) rfl (by omega) hb ?_; intro A3 c3 w2 hown2 hb2 _ _ _)
        go_roundw
        case rel => exact ⟨k + 1, A3, c3, o ++ [(u + cy + v) % 1000000000], (u + cy + v) / 1000000000, by omega, by go_num, rfl, by go_num, by omega, hown2, hso.append (Dec.Small.cons (by omega) Dec.Small.nil), HR.out, hb2⟩
        case measure => simp only [intOf]; omega
      · have hv : y.getD k 0 = 0 := by
          have := hy.len
          rw [List.getD_eq_getElem?_getD, List.getElem?_eq_none (by omega)]; rfl
        have HR := Lib.hid (Dec.plus_round (a := x) (b := y) (n := x.getD k 0 + cy) HO.out HV.out (by omega))
        clear hv
        generalize x.getD k 0 = u at hcu hu HR
        go_wp2_with (at_builtin; refine wpList_app (w0 := w) rfl _ _ _ rfl 168 .u32 4 Tryz.underlying174 infoU32 (by omega) _ _ _ o rfl hown _ ((u + cy) % 1000000000) (by omega) rfl (by omega) hb ?_; intro A3 c3 w2 hown2 hb2 _ _ _)
        go_roundw
        case rel => exact ⟨k + 1, A3, c3, o ++ [(u + cy) % 1000000000], (u + cy) / 1000000000, by omega, by go_num, rfl, by go_num, by omega, hown2, hso.append (Dec.Small.cons (by omega) Dec.Small.nil), HR.out, hb2⟩
        case measure => simp only [intOf]; omega
    · have hkk : k = n := by omega
      subst hkk
      have HF : Hid (Dec.lval 1000000000 (o ++ [cy]) = Dec.lval 1000000000 x + Dec.lval 1000000000 y) := by
        have h := HV.out
        rw [List.take_of_length_le (by rw [hx.len]; omega), List.take_of_length_le (by rw [hy.len]; omega)] at h
        rw [Dec.lval_snoc, HO.out]
        show _ = _
        omega
      go_wp2_with (at_builtin; refine wpList_app (w0 := w) rfl _ _ _ rfl 168 .u32 4 Tryz.underlying174 infoU32 (by omega) _ _ _ o rfl hown _ cy rfl rfl (by omega) hb ?_; intro A3 c3 w2 hown2 hb2 _ _ _)
      refine (trim_any _ _ _ _ _ hown2.sl (by omega)).mono ?_
      rintro e w' ⟨rfl, rfl⟩
      go_wp2
      go_ret
      refine ⟨_, _, _, rfl, ?_, hb2, hown2.fresh⟩
      have := hown2.sl.trimmed (B := 1000000000) (by omega) (hso.append (Dec.Small.cons (by omega) Dec.Small.nil))
      rw [HF.out] at this
      exact this

set_option maxHeartbeats 1000000 in
theorem plus_lt (A A' : Option Addr) (n n' c c' : Nat) (x y : List Nat) (w : World) (hx : Sl w .u32 A n c x) (hy : Sl w .u32 A' n' c' y) (hn : n ≤ 100000000) (hn' : n' ≤ 100000000)
    (hsx : Dec.Small 1000000000 x) (hsy : Dec.Small 1000000000 y) (hlt : n < n') :
    Calls Tryz.prog 154 #[.slice A n c, .slice A' n' c'] w (RetSl .u32 (Dec.limbs 1000000000 (Dec.lval 1000000000 x + Dec.lval 1000000000 y)) w) := by
  go_enter Tryz.func154, Tryz.ntmps154
  go_wp2_with (at_make; refine wpList_mk0 (w0 := w) rfl _ _ _ rfl 168 .u32 4 Tryz.underlying174 infoU32 (by omega) _ _ _ (n' + 1) rfl rfl (by omega) (by omega) (Below.refl _ _) ?_; intro w1 hown1 hb1 _ _)
  go_loopw [5, 6, 22] (fun out cr ix wr => ∃ (k : Nat) (A2 : Option Addr) (c2 : Nat) (o : List Nat) (cy : Nat), k ≤ n' ∧ ix = .int .i64 k ∧ out = .slice A2 k c2 ∧ cr = .int .u32 cy ∧ cy ≤ 1 ∧ Own wr w.heap.size 168 .u32 A2 k c2 o ∧ Dec.Small 1000000000 o ∧ Hid (Dec.lval 1000000000 o + 1000000000 ^ k * cy = Dec.lval 1000000000 (y.take k) + Dec.lval 1000000000 (x.take k)) ∧ Below w.heap.size w wr) (fun _ _ ix _ => n' - (intOf ix).toNat)
  case atStart => exact ⟨0, _, _, [], 0, Nat.zero_le _, rfl, rfl, rfl, by omega, hown1, Dec.Small.nil, (by simp [Dec.lval] : Dec.lval 1000000000 [] + 1000000000 ^ 0 * 0 = Dec.lval 1000000000 (y.take 0) + Dec.lval 1000000000 (x.take 0)), hb1⟩
  case round =>
    obtain ⟨k, A2, c2, o, cy, hk, rfl, rfl, rfl, hcy, hown, hso, HV, hb⟩ := hrel
    have HO := Lib.hid hown.len
    by_cases hkn : k < n'
    · obtain ⟨b, off, rfl, _, hcx⟩ := (hy.below hb).cells (by omega)
      have hcu := hcx k hkn
      clear hcx
      have hu := getD_lt (l := y) hsy (by omega) k
      by_cases hkm : k < n
      · obtain ⟨b', off', rfl, _, hcy'⟩ := (hx.below hb).cells (by omega)
        have hcv := hcy' k hkm
        clear hcy'
        have hv := getD_lt (l := x) hsx (by omega) k
        have HR := Lib.hid (Dec.plus_round (a := y) (b := x) HO.out HV.out rfl)
        generalize y.getD k 0 = u at hcu hu HR
        generalize x.getD k 0 = v at hcv hv HR
        go_wp2_with (at_builtin; refine wpList_app (w0 := w) rfl _ _ _ rfl 168 .u32 4 Tryz.underlying174 infoU32 (by omega) _ _ _ o rfl hown _ ((u + cy + v) % 1000000000) (by omega) rfl (by omega) hb ?_; intro A3 c3 w2 hown2 hb2 _ _ _)
        go_roundw
        case rel => exact ⟨k + 1, A3, c3, o ++ [(u + cy + v) % 1000000000], (u + cy + v) / 1000000000, by omega, by go_num, rfl, by go_num, by omega, hown2, hso.append (Dec.Small.cons (by omega) Dec.Small.nil), HR.out, hb2⟩
        case measure => simp only [intOf]; omega
      · have hv : x.getD k 0 = 0 := by
          have := hx.len
          rw [List.getD_eq_getElem?_getD, List.getElem?_eq_none (by omega)]; rfl
        have HR := Lib.hid (Dec.plus_round (a := y) (b := x) (n := y.getD k 0 + cy) HO.out HV.out (by omega))
        clear hv
        generalize y.getD k 0 = u at hcu hu HR
        go_wp2_with (at_builtin; refine wpList_app (w0 := w) rfl _ _ _ rfl 168 .u32 4 Tryz.underlying174 infoU32 (by omega) _ _ _ o rfl hown _ ((u + cy) % 1000000000) (by omega) rfl (by omega) hb ?_; intro A3 c3 w2 hown2 hb2 _ _ _)
        go_roundw
        case rel => exact ⟨k + 1, A3, c3, o ++ [(u + cy) % 1000000000], (u + cy) / 1000000000, by omega, by go_num, rfl, by go_num, by omega, hown2, hso.append (Dec.Small.cons (by omega) Dec.Small.nil), HR.out, hb2⟩
        case measure => simp only [intOf]; omega
    · have hkk : k = n' := by omega
      subst hkk
      have HF : Hid (Dec.lval 1000000000 (o ++ [cy]) = Dec.lval 1000000000 x + Dec.lval 1000000000 y) := by
        have h := HV.out
        rw [List.take_of_length_le (by rw [hy.len]; omega), List.take_of_length_le (by rw [hx.len]; omega)] at h
        rw [Dec.lval_snoc, HO.out]
        show _ = _
        omega
      go_wp2_with (at_builtin; refine wpList_app (w0 := w) rfl _ _ _ rfl 168 .u32 4 Tryz.underlying174 infoU32 (by omega) _ _ _ o rfl hown _ cy rfl rfl (by omega) hb ?_; intro A3 c3 w2 hown2 hb2 _ _ _)
      refine (trim_any _ _ _ _ _ hown2.sl (by omega)).mono ?_
      rintro e w' ⟨rfl, rfl⟩
      go_wp2
      go_ret
      refine ⟨_, _, _, rfl, ?_, hb2, hown2.fresh⟩
      have := hown2.sl.trimmed (B := 1000000000) (by omega) (hso.append (Dec.Small.cons (by omega) Dec.Small.nil))
      rw [HF.out] at this
      exact this

theorem plus_any (A A' : Option Addr) (n n' c c' : Nat) (x y : List Nat) (w : World) (hx : Sl w .u32 A n c x) (hy : Sl w .u32 A' n' c' y) (hn : n ≤ 100000000) (hn' : n' ≤ 100000000)
    (hsx : Dec.Small 1000000000 x) (hsy : Dec.Small 1000000000 y) :
    Calls Tryz.prog 154 #[.slice A n c, .slice A' n' c'] w (RetSl .u32 (Dec.limbs 1000000000 (Dec.lval 1000000000 x + Dec.lval 1000000000 y)) w) := by
  by_cases h : n < n'
  · exact plus_lt A A' n n' c c' x y w hx hy hn hn' hsx hsy h
  · exact plus_le A A' n n' c c' x y w hx hy hn hn' hsx hsy h
end Go.Proofs.YtlbbfmijemnjdaaGreatDoor
/- number.minus: the limbs of the difference. -/
namespace Go.Proofs.YtlbbfmijemnjdaaGreatDoor
open Go.RowKit

set_option maxHeartbeats 1000000 in
theorem minus_any (A A' : Option Addr) (n n' c c' : Nat) (x y : List Nat) (w : World) (hx : Sl w .u32 A n c x) (hy : Sl w .u32 A' n' c' y) (hn : n ≤ 100000000) (hnn : n' ≤ n)
    (hsx : Dec.Small 1000000000 x) (hsy : Dec.Small 1000000000 y) (hle : Dec.lval 1000000000 y ≤ Dec.lval 1000000000 x) :
    Calls Tryz.prog 155 #[.slice A n c, .slice A' n' c'] w (RetSl .u32 (Dec.limbs 1000000000 (Dec.lval 1000000000 x - Dec.lval 1000000000 y)) w) := by
  go_enter Tryz.func155, Tryz.ntmps155
  go_wp2_with (at_make; refine wpList_mk (w0 := w) rfl _ _ _ rfl 168 .u32 4 Tryz.underlying174 infoU32 (by omega) _ _ _ _ n rfl rfl (by omega) (by omega) (by omega) (Below.refl _ _) ?_; intro w1 hown1 hb1 _ _)
  go_loopw [6, 14] (fun br ix wr => ∃ (k : Nat) (o : List Nat) (bw : Nat), k ≤ n ∧ ix = .int .i64 k ∧ br = .int .i64 bw ∧ bw ≤ 1 ∧ Own wr w.heap.size 168 .u32 (some ⟨w.heap.size, 0, none⟩) n n (o ++ List.replicate (n - k) 0) ∧ Hid (o.length = k) ∧ Dec.Small 1000000000 o ∧ Hid (Dec.lval 1000000000 (x.take k) + 1000000000 ^ k * bw = Dec.lval 1000000000 o + Dec.lval 1000000000 (y.take k)) ∧ Below w.heap.size w wr) (fun _ ix _ => n - (intOf ix).toNat)
  case atStart => exact ⟨0, [], 0, Nat.zero_le _, rfl, rfl, by omega, hown1, (rfl : ([] : List Nat).length = 0), Dec.Small.nil, (by simp [Dec.lval] : Dec.lval 1000000000 (x.take 0) + 1000000000 ^ 0 * 0 = Dec.lval 1000000000 [] + Dec.lval 1000000000 (y.take 0)), hb1⟩
  case round =>
    obtain ⟨k, o, bw, hk, rfl, rfl, hbw, hown, HO, hso, HV, hb⟩ := hrel
    by_cases hkn : k < n
    · obtain ⟨b, off, rfl, _, hcx⟩ := (hx.below hb).cells (by omega)
      have hcu := hcx k hkn
      clear hcx
      have hu := getD_lt (l := x) hsx (by omega) k
      obtain ⟨hco, hfo, _, hgl⟩ := hown.cellAt hkn
      generalize (o ++ List.replicate (n - k) 0).getD k 0 = z at hco
      by_cases hkm : k < n'
      · obtain ⟨b', off', rfl, _, hcy'⟩ := (hy.below hb).cells (by omega)
        have hcv := hcy' k hkm
        clear hcy'
        have hv := getD_lt (l := y) hsy (by omega) k
        have HR := fun d t => Lib.hid (Dec.minus_round (B := 1000000000) (a := x) (b := y) (d := d) (n := t) HO.out HV.out)
        generalize x.getD k 0 = u at hcu hu HR
        generalize y.getD k 0 = v at hcv hv HR
        by_cases hneg : (u : Int) - bw - v < 0
        · have HR1 := Lib.hid ((HR 1 (u + 1000000000 - bw - v)).out (by omega))
          clear HR
          go_wp2
          go_roundw
          case rel => exact ⟨k + 1, o ++ [u + 1000000000 - bw - v], 1, by omega, by go_num, rfl, by omega, hown.setInt (by omega) (set_replicate o n k _ hkn HO.out), (by rw [List.length_append, HO.out]; rfl : (o ++ [u + 1000000000 - bw - v]).length = k + 1), hso.append (Dec.Small.cons (by omega) Dec.Small.nil), HR1.out, hb.setCell (p := ⟨w.heap.size, k, none⟩) (Nat.le_refl _) _⟩
          case measure => simp only [intOf]; omega
        · have HR1 := Lib.hid ((HR 0 (u - bw - v)).out (by omega))
          clear HR
          go_wp2
          go_roundw
          case rel => exact ⟨k + 1, o ++ [u - bw - v], 0, by omega, by go_num, rfl, by omega, hown.setInt (by omega) (set_replicate o n k _ hkn HO.out), (by rw [List.length_append, HO.out]; rfl : (o ++ [u - bw - v]).length = k + 1), hso.append (Dec.Small.cons (by omega) Dec.Small.nil), HR1.out, hb.setCell (p := ⟨w.heap.size, k, none⟩) (Nat.le_refl _) _⟩
          case measure => simp only [intOf]; omega
      · have hv : y.getD k 0 = 0 := by
          have := hy.len
          rw [List.getD_eq_getElem?_getD, List.getElem?_eq_none (by omega)]; rfl
        have HR := fun d t => Lib.hid (Dec.minus_round (B := 1000000000) (a := x) (b := y) (d := d) (n := t) HO.out HV.out)
        rw [hv] at HR
        clear hv
        generalize x.getD k 0 = u at hcu hu HR
        by_cases hneg : (u : Int) - bw < 0
        · have HR1 := Lib.hid ((HR 1 (u + 1000000000 - bw)).out (by omega))
          clear HR
          go_wp2
          go_roundw
          case rel => exact ⟨k + 1, o ++ [u + 1000000000 - bw], 1, by omega, by go_num, rfl, by omega, hown.setInt (by omega) (set_replicate o n k _ hkn HO.out), (by rw [List.length_append, HO.out]; rfl : (o ++ [u + 1000000000 - bw]).length = k + 1), hso.append (Dec.Small.cons (by omega) Dec.Small.nil), HR1.out, hb.setCell (p := ⟨w.heap.size, k, none⟩) (Nat.le_refl _) _⟩
          case measure => simp only [intOf]; omega
        · have HR1 := Lib.hid ((HR 0 (u - bw)).out (by omega))
          clear HR
          go_wp2
          go_roundw
          case rel => exact ⟨k + 1, o ++ [u - bw], 0, by omega, by go_num, rfl, by omega, hown.setInt (by omega) (set_replicate o n k _ hkn HO.out), (by rw [List.length_append, HO.out]; rfl : (o ++ [u - bw]).length = k + 1), hso.append (Dec.Small.cons (by omega) Dec.Small.nil), HR1.out, hb.setCell (p := ⟨w.heap.size, k, none⟩) (Nat.le_refl _) _⟩
          case measure => simp only [intOf]; omega
    · have hkk : k = n := by omega
      subst hkk
      have hfin : Dec.lval 1000000000 o = Dec.lval 1000000000 x - Dec.lval 1000000000 y := by
        have h := HV.out
        rw [List.take_of_length_le (by rw [hx.len]; omega), List.take_of_length_le (by rw [hy.len]; omega)] at h
        have hlt := Dec.lval_lt (B := 1000000000) (by omega) hso
        rw [HO.out] at hlt
        rcases Nat.eq_zero_or_pos bw with e | e
        · subst e; omega
        · obtain rfl : bw = 1 := by omega
          omega
      have HF := Lib.hid hfin
      clear hfin
      have hsl := hown.sl
      rw [Nat.sub_self] at hsl
      simp only [List.replicate_zero, List.append_nil] at hsl
      go_wp2_with fail
      refine (trim_any _ _ _ _ _ hsl (by omega)).mono ?_
      rintro e w' ⟨rfl, rfl⟩
      go_wp2
      go_ret
      refine ⟨_, _, _, rfl, ?_, hb, hown.fresh⟩
      have := hsl.trimmed (B := 1000000000) (by omega) hso
      rw [HF.out] at this
      exact this
end Go.Proofs.YtlbbfmijemnjdaaGreatDoor
/- number.times: the limbs of the product. -/
namespace Go.Proofs.YtlbbfmijemnjdaaGreatDoor
open Go.RowKit

theorem getD_set_ne (l : List Nat) (i j v : Nat) (h : i ≠ j) : (l.set i v).getD j 0 = l.getD j 0 := by
  rw [List.getD_eq_getElem?_getD, List.getD_eq_getElem?_getD, List.getElem?_set_ne h]
theorem getD_replicate (n j : Nat) : (List.replicate n 0).getD j 0 = 0 := by
  rw [List.getD_eq_getElem?_getD, List.getElem?_replicate]; split <;> rfl
theorem lval_replicate (B n : Nat) : Dec.lval B (List.replicate n 0) = 0 := by
  induction n with
  | zero => rfl
  | succ n ih => rw [List.replicate_succ, Dec.lval, ih]; simp
theorem small_replicate (B n : Nat) (hB : 1 ≤ B) : Dec.Small B (List.replicate n 0) := by
  intro x hx
  rw [(List.mem_replicate.1 hx).2]; omega
theorem mul_bound {u v : Nat} (hu : u < 1000000000) (hv : v < 1000000000) : (0 : Int) ≤ (u : Int) * v ∧ (u : Int) * v ≤ 999999998000000001 := by
  have h : u * v ≤ 999999999 * 999999999 := Nat.mul_le_mul (by omega) (by omega)
  have e : ((u * v : Nat) : Int) = (u : Int) * v := by rw [Int.natCast_mul]
  omega
theorem cast_mod {z u v c : Nat} : ((z : Int) + (u : Int) * v + c) % 1000000000 = (((z + u * v + c) % 1000000000 : Nat) : Int) := by
  rw [Int.natCast_emod, Int.natCast_add, Int.natCast_add, Int.natCast_mul]; rfl
theorem cast_div {z u v c : Nat} : ((z : Int) + (u : Int) * v + c) / 1000000000 = (((z + u * v + c) / 1000000000 : Nat) : Int) := by
  rw [Int.natCast_ediv, Int.natCast_add, Int.natCast_add, Int.natCast_mul]; rfl

set_option maxHeartbeats 2000000 in
theorem times_any (A A' : Option Addr) (n n' c c' : Nat) (x y : List Nat) (w : World) (hx : Sl w .u32 A n c x) (hy : Sl w .u32 A' n' c' y) (hn : n ≤ 100000000) (hn' : n' ≤ 100000000)
    (hsx : Dec.Small 1000000000 x) (hsy : Dec.Small 1000000000 y) :
    Calls Tryz.prog 162 #[.slice A n c, .slice A' n' c'] w (RetSl .u32 (Dec.limbs 1000000000 (Dec.lval 1000000000 x * Dec.lval 1000000000 y)) w) := by
  go_enter Tryz.func162, Tryz.ntmps162
  go_wp2_with (at_make; refine wpList_mk (w0 := w) rfl _ _ _ rfl 168 .u32 4 Tryz.underlying174 infoU32 (by omega) _ _ _ _ (n + n') rfl rfl (by omega) (by omega) (by omega) (Below.refl _ _) ?_; intro w1 hown1 hb1 _ _)
  go_loopw [20] (fun ix wr => ∃ (k : Nat) (L : List Nat), k ≤ n ∧ ix = .int .i64 k ∧ Own wr w.heap.size 168 .u32 (some ⟨w.heap.size, 0, none⟩) (n + n') (n + n') L ∧ Dec.Small 1000000000 L ∧ Hid (Dec.lval 1000000000 L = Dec.lval 1000000000 (x.take k) * Dec.lval 1000000000 y) ∧ Hid (∀ j, k + n' ≤ j → L.getD j 0 = 0) ∧ Below w.heap.size w wr) (fun ix _ => n - (intOf ix).toNat)
  case atStart => exact ⟨0, _, Nat.zero_le _, rfl, hown1, small_replicate _ _ (by omega), (by rw [lval_replicate, List.take_zero]; simp [Dec.lval] : Dec.lval 1000000000 (List.replicate (n + n') 0) = Dec.lval 1000000000 (x.take 0) * Dec.lval 1000000000 y), (fun j _ => getD_replicate _ j : ∀ j, 0 + n' ≤ j → (List.replicate (n + n') 0).getD j 0 = 0), hb1⟩
  case round =>
    obtain ⟨k, L, hk, rfl, hown, hsL, HV, HZ, hb⟩ := hrel
    obtain ⟨wo, rfl⟩ : ∃ wo : World, wo = wr := ⟨_, rfl⟩
    by_cases hkn : k < n
    · obtain ⟨b, off, rfl, _, hcx⟩ := (hx.below hb).cells (by omega)
      have hcu := hcx k hkn
      clear hcx
      have hu := getD_lt (l := x) hsx (by omega) k
      have HT := Lib.hid (Dec.times_outer (B := 1000000000) (a := x) (b := y) (i := k) HV.out)
      generalize x.getD k 0 = u at hcu hu HT
      go_wp2
      go_loopw [8, 27] (fun cr jx wr => ∃ (m cy : Nat) (M : List Nat), m ≤ n' ∧ jx = .int .i64 m ∧ cr = .int .u64 cy ∧ cy < 1000000000 ∧ Own wr w.heap.size 168 .u32 (some ⟨w.heap.size, 0, none⟩) (n + n') (n + n') M ∧ Dec.Small 1000000000 M ∧ Hid (Dec.lval 1000000000 M + 1000000000 ^ (k + m) * cy = Dec.lval 1000000000 L + 1000000000 ^ k * (u * Dec.lval 1000000000 (y.take m))) ∧ Hid (∀ j, k + n' ≤ j → M.getD j 0 = 0) ∧ Below w.heap.size w wr) (fun _ jx _ => n' - (intOf jx).toNat)
      case atStart => exact ⟨0, 0, L, Nat.zero_le _, rfl, rfl, by omega, hown, hsL, (by simp [Dec.lval] : Dec.lval 1000000000 L + 1000000000 ^ (k + 0) * 0 = Dec.lval 1000000000 L + 1000000000 ^ k * (u * Dec.lval 1000000000 (y.take 0))), HZ, hb⟩
      case round =>
        obtain ⟨m, cy, M, hm, rfl, rfl, hcy, hownM, hsM, HM, HZM, hbM⟩ := hrel
        by_cases hmn : m < n'
        · obtain ⟨b', off', rfl, _, hcy'⟩ := (hy.below hbM).cells (by omega)
          have hcv := hcy' m hmn
          clear hcy'
          have hv := getD_lt (l := y) hsy (by omega) m
          have hlM := hownM.len
          obtain ⟨hco, hfo, _, hgl⟩ := hownM.cellAt (i := k + m) (by omega)
          have hz := getD_lt (l := M) hsM (by omega) (k + m)
          have HR := Lib.hid (Dec.times_round (B := 1000000000) (o := M) (b := y) (x := u) (i := k) (j := m) (by omega) HM.out rfl rfl)
          clear hlM
          generalize M.getD (k + m) 0 = z at hco hz HR
          generalize y.getD m 0 = v at hcv hv HR
          obtain ⟨hp1, hp2⟩ := mul_bound hu hv
          have hfit := Dec.times_fits (B := 1000000000) (by omega) hz hu hv hcy
          go_wp2
          go_roundw
          case rel =>
            refine ⟨m + 1, (z + u * v + cy) / 1000000000, M.set (k + m) ((z + u * v + cy) % 1000000000), by omega, by go_num, ?_, by omega, hownM.setInt ?_ rfl, hsM.set (by omega), HR.out, (fun j hj => by rw [getD_set_ne _ _ _ _ (by omega)]; exact HZM.out j hj : ∀ j, k + n' ≤ j → (M.set (k + m) ((z + u * v + cy) % 1000000000)).getD j 0 = 0), hbM.setCell (p := ⟨w.heap.size, k + m, none⟩) (Nat.le_refl _) _⟩
            · rw [cast_div]
            · rw [cast_mod]
          case measure => simp only [intOf]; omega
        · have hmm : m = n' := by omega
          subst hmm
          obtain ⟨hco, hfo, _, hgl⟩ := hownM.cellAt (i := k + m) (by omega)
          have HR : Hid (Dec.lval 1000000000 (M.set (k + m) cy) = Dec.lval 1000000000 (x.take (k + 1)) * Dec.lval 1000000000 y) := by
            have hly := hy.len
            subst hly
            exact (Dec.times_row (by rw [hownM.len]; omega) (HZM.out _ (Nat.le_refl _)) HM.out).trans HT.out
          generalize M.getD (k + m) 0 = z at hco
          go_wp2
          go_roundw
          case rel => exact ⟨k + 1, M.set (k + m) cy, by omega, by go_num, hownM.setInt (by omega) rfl, hsM.set hcy, HR.out, (fun j hj => by rw [getD_set_ne _ _ _ _ (by omega)]; exact HZM.out j (by omega) : ∀ j, k + 1 + m ≤ j → (M.set (k + m) cy).getD j 0 = 0), hbM.setCell (p := ⟨w.heap.size, k + m, none⟩) (Nat.le_refl _) _⟩
          case measure => simp only [intOf]; omega
    · have hkk : k = n := by omega
      subst hkk
      have hsl := hown.sl
      go_wp2_with fail
      refine (trim_any _ _ _ _ _ hsl (by omega)).mono ?_
      rintro e w' ⟨rfl, rfl⟩
      go_wp2
      go_ret
      refine ⟨_, _, _, rfl, ?_, hb, hown.fresh⟩
      have := hsl.trimmed (B := 1000000000) (by omega) hsL
      rw [HV.out, List.take_of_length_le (by rw [hx.len]; omega)] at this
      exact this
end Go.Proofs.YtlbbfmijemnjdaaGreatDoor
