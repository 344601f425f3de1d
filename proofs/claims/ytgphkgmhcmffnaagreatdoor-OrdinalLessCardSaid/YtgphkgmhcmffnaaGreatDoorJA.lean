/- Plain arithmetic of decimals and limbs: what the Go texts of chapter 1 compute, with no program in sight. -/
import Derived.Lib.ItoaMem
import Derived.Lib.ParseIntB
import Derived.Lib.AtoiAll
import Derived.Lib.Strings
namespace Go.Proofs.YtgphkgmhcmffnaaGreatDoor.Dec
open Go Go.Lib

/-! ### Lists of limbs, the least one first -/
def lval (B : Nat) : List Nat → Nat
  | [] => 0
  | x :: r => x + B * lval B r
def limbsF (B : Nat) : Nat → Nat → List Nat
  | 0, _ => []
  | f + 1, n => if n = 0 then [] else n % B :: limbsF B f (n / B)
def limbs (B n : Nat) : List Nat := limbsF B n n
def Small (B : Nat) (l : List Nat) : Prop := ∀ x ∈ l, x < B
def trimZ (l : List Nat) : List Nat := (l.reverse.dropWhile (· == 0)).reverse

theorem limbsF_fuel (B : Nat) (hB : 2 ≤ B) : ∀ (f g n : Nat), n ≤ f → n ≤ g → limbsF B f n = limbsF B g n
  | 0, 0, _, _, _ => rfl
  | 0, g + 1, n, h, _ => by have : n = 0 := by omega
                            subst this; simp [limbsF]
  | f + 1, 0, n, _, h => by have : n = 0 := by omega
                            subst this; simp [limbsF]
  | f + 1, g + 1, n, h1, h2 => by
    by_cases hn : n = 0
    · subst hn; simp [limbsF]
    · have hd : n / B < n := Nat.div_lt_self (by omega) (by omega)
      simp only [limbsF, hn, if_false]
      rw [limbsF_fuel B hB f g (n / B) (by omega) (by omega)]
theorem limbs_zero (B : Nat) : limbs B 0 = [] := rfl
theorem limbs_step {B n : Nat} (hB : 2 ≤ B) (hn : n ≠ 0) : limbs B n = n % B :: limbs B (n / B) := by
  have hd : n / B < n := Nat.div_lt_self (by omega) (by omega)
  obtain ⟨m, rfl⟩ : ∃ m, n = m + 1 := ⟨n - 1, by omega⟩
  unfold limbs
  rw [limbsF, if_neg hn, limbsF_fuel B hB m ((m + 1) / B) _ (by omega) (Nat.le_refl _)]
theorem lval_limbs {B : Nat} (hB : 2 ≤ B) (n : Nat) : lval B (limbs B n) = n := by
  induction n using Nat.strongRecOn with
  | _ n ih =>
    by_cases hn : n = 0
    · subst hn; rfl
    · rw [limbs_step hB hn, lval, ih (n / B) (Nat.div_lt_self (by omega) (by omega))]
      exact Nat.mod_add_div n B
theorem limbs_small {B : Nat} (hB : 2 ≤ B) (n : Nat) : Small B (limbs B n) := by
  induction n using Nat.strongRecOn with
  | _ n ih =>
    by_cases hn : n = 0
    · subst hn; intro x hx; cases hx
    · rw [limbs_step hB hn]
      intro x hx
      rcases List.mem_cons.1 hx with rfl | hx
      · exact Nat.mod_lt _ (by omega)
      · exact ih (n / B) (Nat.div_lt_self (by omega) (by omega)) x hx
theorem limbs_eq_nil {B n : Nat} (hB : 2 ≤ B) : limbs B n = [] ↔ n = 0 := by
  constructor
  · intro h; rw [← lval_limbs hB n, h]; rfl
  · rintro rfl; rfl
theorem limbs_getLast {B : Nat} (hB : 2 ≤ B) (n : Nat) : ∀ h : limbs B n ≠ [], (limbs B n).getLast h ≠ 0 := by
  induction n using Nat.strongRecOn with
  | _ n ih =>
    intro h
    have hn : n ≠ 0 := fun e => h (by subst e; rfl)
    have e := limbs_step hB hn
    by_cases hq : n / B = 0
    · have : limbs B n = [n % B] := by rw [e, hq]; rfl
      simp only [this, List.getLast_singleton]
      have := Nat.mod_add_div n B
      rw [hq] at this
      omega
    · have hne : limbs B (n / B) ≠ [] := fun h' => hq ((limbs_eq_nil hB).1 h')
      have := ih (n / B) (Nat.div_lt_self (by omega) (by omega)) hne
      have key : ∀ (l : List Nat) (h : l ≠ []), l = n % B :: limbs B (n / B) → l.getLast h ≠ 0 := by
        rintro _ h rfl
        rw [List.getLast_cons hne]
        exact this
      exact key _ h e
theorem lval_append (B : Nat) (l r : List Nat) : lval B (l ++ r) = lval B l + B ^ l.length * lval B r := by
  induction l with
  | nil => simp [lval]
  | cons x l ih =>
    simp only [List.cons_append, lval, ih, List.length_cons, Nat.pow_succ]
    rw [Nat.mul_add, Nat.mul_comm (B ^ l.length) B, Nat.mul_assoc]
    omega
theorem lval_lt {B : Nat} (hB : 1 ≤ B) : ∀ {l : List Nat}, Small B l → lval B l < B ^ l.length
  | [], _ => by simp [lval]
  | x :: r, h => by
    have h1 : x < B := h x (by simp)
    have h2 := lval_lt hB (l := r) (fun y hy => h y (by simp [hy]))
    simp only [lval, List.length_cons, Nat.pow_succ]
    have : B * (lval B r + 1) ≤ B * B ^ r.length := Nat.mul_le_mul_left B h2
    rw [Nat.mul_add] at this
    rw [Nat.mul_comm (B ^ r.length) B]
    omega
theorem Small.cons {B x : Nat} {l : List Nat} (h : x < B) (hl : Small B l) : Small B (x :: l) := by
  intro y hy
  rcases List.mem_cons.1 hy with rfl | hy
  · exact h
  · exact hl y hy
theorem Small.append {B : Nat} {l r : List Nat} (hl : Small B l) (hr : Small B r) : Small B (l ++ r) := by
  intro y hy
  rcases List.mem_append.1 hy with hy | hy
  · exact hl y hy
  · exact hr y hy
theorem Small.nil {B : Nat} : Small B [] := fun _ h => by cases h
theorem Small.take {B : Nat} {l : List Nat} (h : Small B l) (k : Nat) : Small B (l.take k) := fun x hx => h x (List.mem_of_mem_take hx)
theorem Small.drop {B : Nat} {l : List Nat} (h : Small B l) (k : Nat) : Small B (l.drop k) := fun x hx => h x (List.mem_of_mem_drop hx)
theorem Small.getD {B : Nat} {l : List Nat} (hB : 1 ≤ B) (h : Small B l) (k : Nat) : l.getD k 0 < B := by
  by_cases hk : k < l.length
  · rw [List.getD_eq_getElem?_getD, List.getElem?_eq_getElem hk]; exact h _ (List.getElem_mem hk)
  · rw [List.getD_eq_getElem?_getD, List.getElem?_eq_none (by omega)]; simp; omega

/-- the canonical list is the only one without a zero at its end -/
theorem limbs_unique {B : Nat} (hB : 2 ≤ B) : ∀ (l : List Nat), Small B l → (∀ h : l ≠ [], l.getLast h ≠ 0) → l = limbs B (lval B l)
  | [], _, _ => rfl
  | x :: r, hs, hl => by
    have hx : x < B := hs x (by simp)
    have hr : Small B r := fun y hy => hs y (by simp [hy])
    have hrl : ∀ h : r ≠ [], r.getLast h ≠ 0 := fun h => by
      have := hl (by simp)
      rwa [List.getLast_cons h] at this
    have ih := limbs_unique hB r hr hrl
    have hv : x + B * lval B r ≠ 0 := by
      by_cases hn : r = []
      · subst hn
        have := hl (by simp)
        simp only [List.getLast_singleton] at this
        omega
      · have h0 : lval B r ≠ 0 := fun e => hn (by rw [ih, e]; rfl)
        have : 0 < B * lval B r := Nat.mul_pos (by omega) (by omega)
        omega
    simp only [lval]
    rw [limbs_step hB hv, Nat.add_mul_mod_self_left, Nat.mod_eq_of_lt hx, Nat.add_mul_div_left _ _ (by omega), Nat.div_eq_of_lt hx, Nat.zero_add, ← ih]

theorem trimZ_nil : trimZ [] = [] := rfl
theorem trimZ_snoc_zero (l : List Nat) : trimZ (l ++ [0]) = trimZ l := by simp [trimZ]
theorem trimZ_snoc {x : Nat} (hx : x ≠ 0) (l : List Nat) : trimZ (l ++ [x]) = l ++ [x] := by
  simp [trimZ, hx]
theorem lval_zero_snoc (B : Nat) (l : List Nat) : lval B (l ++ [0]) = lval B l := by simp [lval_append, lval]
theorem trimZ_limbs {B : Nat} (hB : 2 ≤ B) (l : List Nat) (hs : Small B l) : trimZ l = limbs B (lval B l) := by
  induction hk : l.length generalizing l with
  | zero => obtain rfl : l = [] := List.eq_nil_of_length_eq_zero hk
            rfl
  | succ k ih =>
    obtain ⟨r, x, rfl⟩ : ∃ r x, l = r ++ [x] := ⟨l.dropLast, l.getLast (by intro e; subst e; simp at hk), (List.dropLast_concat_getLast _).symm⟩
    by_cases hx : x = 0
    · subst hx
      rw [trimZ_snoc_zero, lval_zero_snoc, ih r (fun y hy => hs y (by simp [hy])) (by simpa using hk)]
    · rw [trimZ_snoc hx]
      exact limbs_unique hB _ hs (fun h => by simpa using hx)
theorem limbs_lt_length {B n k : Nat} (hB : 2 ≤ B) (h : n < B ^ k) : (limbs B n).length ≤ k := by
  induction k generalizing n with
  | zero => simp at h; subst h; simp [limbs_zero]
  | succ k ih =>
    by_cases hn : n = 0
    · subst hn; simp [limbs_zero]
    · rw [limbs_step hB hn, List.length_cons]
      have : n / B < B ^ k := Nat.div_lt_of_lt_mul (by rw [Nat.pow_succ, Nat.mul_comm] at h; exact h)
      have := ih this
      omega
theorem le_of_limbs_length {B n : Nat} (hB : 2 ≤ B) (hn : n ≠ 0) : B ^ ((limbs B n).length - 1) ≤ n := by
  induction n using Nat.strongRecOn with
  | _ n ih =>
    rw [limbs_step hB hn, List.length_cons, Nat.add_sub_cancel]
    by_cases hq : n / B = 0
    · rw [hq, limbs_zero]; simp; omega
    · have := ih (n / B) (Nat.div_lt_self (by omega) (by omega)) hq
      have hl : (limbs B (n / B)).length ≠ 0 := fun e => hq ((limbs_eq_nil hB).1 (List.eq_nil_of_length_eq_zero e))
      obtain ⟨m, hm⟩ : ∃ m, (limbs B (n / B)).length = m + 1 := ⟨_, (Nat.succ_pred hl).symm⟩
      rw [hm, Nat.add_sub_cancel] at this
      rw [hm, Nat.pow_succ]
      calc B ^ m * B ≤ (n / B) * B := Nat.mul_le_mul_right B this
        _ ≤ n := Nat.div_mul_le_self n B

/-! ### Bytes that are digits -/
def dig (c : UInt8) : Bool := decide (48 ≤ c.toNat) && decide (c.toNat ≤ 57)
def digs (l : List UInt8) : Bool := l.all dig
def nval (l : List UInt8) : Nat := l.foldl (fun a c => a * 10 + (c.toNat - 48)) 0
theorem foldl_nval (l : List UInt8) : ∀ a : Nat, l.foldl (fun a c => a * 10 + (c.toNat - 48)) a = a * 10 ^ l.length + nval l := by
  induction l with
  | nil => intro a; simp [nval]
  | cons c l ih =>
    intro a
    simp only [List.foldl_cons, nval, List.length_cons]
    rw [ih (a * 10 + (c.toNat - 48)), ih (0 * 10 + (c.toNat - 48)), Nat.pow_succ, Nat.add_mul, Nat.mul_assoc, Nat.mul_comm 10]
    simp only [Nat.zero_mul, Nat.zero_add]
    omega
theorem nval_append (l r : List UInt8) : nval (l ++ r) = nval l * 10 ^ r.length + nval r := by
  unfold nval
  rw [List.foldl_append, foldl_nval]
  rfl
theorem nval_nil : nval [] = 0 := rfl
theorem nval_one (c : UInt8) : nval [c] = c.toNat - 48 := by simp [nval]
theorem snoc_ind {α : Type} {motive : List α → Prop} (nil : motive []) (snoc : ∀ l c, motive l → motive (l ++ [c])) : ∀ l, motive l := by
  intro l
  rw [← List.reverse_reverse l]
  induction l.reverse with
  | nil => exact nil
  | cons c r ih => rw [List.reverse_cons]; exact snoc _ _ ih
theorem nval_lt (l : List UInt8) (h : digs l = true) : nval l < 10 ^ l.length := by
  induction l using snoc_ind with
  | nil => simp [nval]
  | snoc l c ih =>
    have hc : dig c = true := by simp [digs] at h; exact h.2
    have hl : digs l = true := by simp [digs] at h ⊢; exact h.1
    have := ih hl
    rw [nval_append, nval_one, List.length_append, List.length_singleton, Nat.pow_succ]
    simp [dig] at hc
    omega

/-! ### The numeral -/
theorem decDigits_small {u : Nat} (h : u < 10) : decDigits u = [UInt8.ofNat (48 + u)] := by rw [decDigits, dif_pos h]
theorem decDigits_big {u : Nat} (h : ¬ u < 10) : decDigits u = decDigits (u / 10) ++ [UInt8.ofNat (48 + u % 10)] := by rw [decDigits, dif_neg h]
theorem ofNat_toNat {d : Nat} (h : d < 10) : (UInt8.ofNat (48 + d)).toNat = 48 + d := by
  rw [UInt8.toNat_ofNat']
  omega
theorem dig_ofNat {d : Nat} (h : d < 10) : dig (UInt8.ofNat (48 + d)) = true := by
  simp only [dig, ofNat_toNat h, Bool.and_eq_true, decide_eq_true_eq]
  omega
theorem digs_decDigits (u : Nat) : digs (decDigits u) = true := by
  induction u using Nat.strongRecOn with
  | _ u ih =>
    by_cases h : u < 10
    · rw [decDigits_small h, digs, List.all_cons, dig_ofNat h]; rfl
    · rw [decDigits_big h]
      have := ih (u / 10) (by omega)
      have h2 := dig_ofNat (d := u % 10) (by omega)
      simp only [digs, List.all_append, Bool.and_eq_true] at this ⊢
      exact ⟨this, by rw [List.all_cons, h2]; rfl⟩
theorem nval_decDigits (u : Nat) : nval (decDigits u) = u := by
  induction u using Nat.strongRecOn with
  | _ u ih =>
    by_cases h : u < 10
    · rw [decDigits_small h, nval_one, ofNat_toNat h]; omega
    · rw [decDigits_big h, nval_append, ih (u / 10) (by omega), nval_one, ofNat_toNat (by omega)]
      simp only [List.length_singleton, Nat.pow_one]
      omega
theorem decDigits_ne_nil (u : Nat) : decDigits u ≠ [] := by
  by_cases h : u < 10
  · rw [decDigits_small h]; simp
  · rw [decDigits_big h]; simp
theorem decDigits_head {u : Nat} (hu : u ≠ 0) : ∃ c r, decDigits u = c :: r ∧ c.toNat ≠ 48 := by
  induction u using Nat.strongRecOn with
  | _ u ih =>
    by_cases h : u < 10
    · exact ⟨_, _, decDigits_small h, by rw [ofNat_toNat h]; omega⟩
    · obtain ⟨c, r, e, hc⟩ := ih (u / 10) (by omega) (by omega)
      exact ⟨c, r ++ [UInt8.ofNat (48 + u % 10)], by rw [decDigits_big h, e]; rfl, hc⟩
theorem digs_snoc {l : List UInt8} {c : UInt8} : digs (l ++ [c]) = true ↔ digs l = true ∧ dig c = true := by
  simp [digs, List.all_append]
theorem digs_append {l r : List UInt8} : digs (l ++ r) = true ↔ digs l = true ∧ digs r = true := by
  simp [digs, List.all_append]
theorem byte_of_dig {c : UInt8} (h : dig c = true) : c = UInt8.ofNat (48 + (c.toNat - 48)) := by
  simp only [dig, Bool.and_eq_true, decide_eq_true_eq] at h
  rw [Nat.add_sub_cancel' h.1, UInt8.ofNat_toNat]
/-- digits without a zero ahead are the numeral of what they spell -/
theorem decDigits_nval (l : List UInt8) : digs l = true → (∃ c r, l = c :: r ∧ c.toNat ≠ 48) → decDigits (nval l) = l ∧ nval l ≠ 0 := by
  induction l using snoc_ind with
  | nil => rintro _ ⟨c, r, h, _⟩; cases h
  | snoc l d ih =>
    intro hd hh
    obtain ⟨hl, hc⟩ := digs_snoc.1 hd
    have hcc := hc
    simp only [dig, Bool.and_eq_true, decide_eq_true_eq] at hcc
    by_cases hn : l = []
    · subst hn
      obtain ⟨c, r, h, h48⟩ := hh
      simp only [List.nil_append, List.cons.injEq] at h
      obtain ⟨rfl, rfl⟩ := h
      simp only [List.nil_append, nval_one]
      refine ⟨?_, by omega⟩
      rw [decDigits_small (by omega), ← byte_of_dig hc]
    · obtain ⟨c, r, h, h48⟩ := hh
      have hl' : ∃ c r, l = c :: r ∧ c.toNat ≠ 48 := by
        cases l with
        | nil => exact absurd rfl hn
        | cons x t => simp only [List.cons_append, List.cons.injEq] at h
                      exact ⟨x, t, rfl, by rw [h.1]; exact h48⟩
      obtain ⟨e, hz⟩ := ih hl hl'
      rw [nval_append, nval_one, List.length_singleton, Nat.pow_one]
      refine ⟨?_, by omega⟩
      rw [decDigits_big (by omega)]
      have h1 : (nval l * 10 + (d.toNat - 48)) / 10 = nval l := by omega
      have h2 : (nval l * 10 + (d.toNat - 48)) % 10 = d.toNat - 48 := by omega
      rw [h1, h2, e, ← byte_of_dig hc]

/-! ### Decimals -/
/-- the digits behind a sign -/
def mag : List UInt8 → List UInt8
  | [] => []
  | c :: r => if c = 45 then r else c :: r
def neg : List UInt8 → Bool
  | [] => false
  | c :: _ => c == 45
def isDec (s : List UInt8) : Bool := s == [48] || (match mag s with | [] => false | c :: r => c != 48 && digs (c :: r))
def dval (s : List UInt8) : Int := if isDec s then (if neg s then -(nval (mag s) : Int) else nval (mag s)) else 0
theorem neg_cons45 (r : List UInt8) : neg (45 :: r) = true := by simp [neg]
theorem mag_cons45 (r : List UInt8) : mag (45 :: r) = r := by simp [mag]
theorem mag_of_not {s : List UInt8} (h : neg s = false) : mag s = s := by
  cases s with
  | nil => rfl
  | cons c r => simp [neg] at h; simp [mag, h]
theorem cons_of_neg {s : List UInt8} (h : neg s = true) : s = 45 :: mag s := by
  cases s with
  | nil => simp [neg] at h
  | cons c r => simp [neg] at h; subst h; simp [mag]
theorem isDec_zero : isDec [48] = true := by decide
theorem isDec_iff {s : List UInt8} (h0 : s ≠ [48]) : isDec s = true ↔ (digs (mag s) = true ∧ ∃ c r, mag s = c :: r ∧ c.toNat ≠ 48) := by
  have hb : (s == [48]) = false := by simpa using h0
  unfold isDec
  rw [hb, Bool.false_or]
  cases hm : mag s with
  | nil => simp
  | cons c r =>
    simp only [Bool.and_eq_true, bne_iff_ne, ne_eq, List.cons.injEq]
    constructor
    · rintro ⟨h1, h2⟩
      refine ⟨h2, c, r, ⟨rfl, rfl⟩, fun e => h1 ?_⟩
      exact UInt8.toNat_inj.1 (by simpa using e)
    · rintro ⟨h2, c', r', ⟨rfl, rfl⟩, h1⟩
      exact ⟨fun e => h1 (by subst e; rfl), h2⟩
theorem itoa_zero : itoa 0 = [48] := by decide +kernel
theorem itoa_pos {u : Nat} : itoa (u : Int) = decDigits u := by simp [itoa]
theorem itoa_neg' {u : Nat} (h : u ≠ 0) : itoa (-(u : Int)) = 45 :: decDigits u := by
  rw [itoa, if_pos (by omega)]
  simp
theorem head_ne45 {c : UInt8} {r : List UInt8} (h : digs (c :: r) = true) : c ≠ 45 := by
  rintro rfl
  simp [digs, dig] at h
theorem dval_zero : dval [48] = 0 := by decide
/-- a decimal is the numeral of its value -/
theorem itoa_dval {s : List UInt8} (h : isDec s = true) : itoa (dval s) = s := by
  by_cases h0 : s = [48]
  · subst h0; rw [dval_zero, itoa_zero]
  · obtain ⟨hd, hh⟩ := (isDec_iff h0).1 h
    obtain ⟨e, hz⟩ := decDigits_nval _ hd hh
    unfold dval
    rw [if_pos h]
    cases hn : neg s with
    | true => rw [if_pos rfl, itoa_neg' hz, e]; exact (cons_of_neg hn).symm
    | false => rw [if_neg (by simp), itoa_pos, e, mag_of_not hn]
theorem isDec_itoa (n : Int) : isDec (itoa n) = true := by
  by_cases hz : n = 0
  · subst hz; rw [itoa_zero]; rfl
  · by_cases hn : n < 0
    · obtain ⟨u, rfl⟩ : ∃ u : Nat, n = -(u : Int) := ⟨n.natAbs, by omega⟩
      have hu : u ≠ 0 := by omega
      obtain ⟨c, r, e, hc⟩ := decDigits_head hu
      rw [itoa_neg' hu]
      refine (isDec_iff (by intro h; simp at h)).2 ?_
      rw [mag_cons45]
      exact ⟨digs_decDigits u, c, r, e, hc⟩
    · obtain ⟨u, rfl⟩ : ∃ u : Nat, n = (u : Int) := ⟨n.toNat, by omega⟩
      have hu : u ≠ 0 := by omega
      obtain ⟨c, r, e, hc⟩ := decDigits_head hu
      have hd := digs_decDigits u
      rw [itoa_pos]
      have hm : mag (decDigits u) = decDigits u := by
        rw [e] at hd ⊢
        simp [mag, head_ne45 hd]
      refine (isDec_iff ?_).2 ?_
      · intro h; rw [e] at h; simp only [List.cons.injEq] at h; exact hc (by rw [h.1]; rfl)
      · rw [hm]; exact ⟨hd, c, r, e, hc⟩
theorem dval_itoa (n : Int) : dval (itoa n) = n := by
  unfold dval
  rw [if_pos (isDec_itoa n)]
  by_cases hz : n = 0
  · subst hz; rw [itoa_zero]; rfl
  · by_cases hn : n < 0
    · obtain ⟨u, rfl⟩ : ∃ u : Nat, n = -(u : Int) := ⟨n.natAbs, by omega⟩
      have hu : u ≠ 0 := by omega
      rw [itoa_neg' hu, neg_cons45, mag_cons45, nval_decDigits]
      rfl
    · obtain ⟨u, rfl⟩ : ∃ u : Nat, n = (u : Int) := ⟨n.toNat, by omega⟩
      have hu : u ≠ 0 := by omega
      obtain ⟨c, r, e, hc⟩ := decDigits_head hu
      have hd := digs_decDigits u
      rw [itoa_pos]
      have hng : neg (decDigits u) = false := by
        rw [e] at hd ⊢
        simp [neg, head_ne45 hd]
      rw [hng, mag_of_not hng, nval_decDigits]
      rfl
theorem itoa_inj {a b : Int} (h : itoa a = itoa b) : a = b := by rw [← dval_itoa a, h, dval_itoa]
end Go.Proofs.YtgphkgmhcmffnaaGreatDoor.Dec
/- What the loops over limbs do to the value of a list: plain arithmetic, one lemma a loop's round. -/
namespace Go.Proofs.YtgphkgmhcmffnaaGreatDoor.Dec
open Go Go.Lib

theorem lval_take_succ (B : Nat) (l : List Nat) (i : Nat) : lval B (l.take (i + 1)) = lval B (l.take i) + B ^ i * l.getD i 0 := by
  by_cases h : i < l.length
  · rw [List.take_succ_eq_append_getElem h, lval_append, List.length_take, Nat.min_eq_left (by omega), List.getD_eq_getElem?_getD, List.getElem?_eq_getElem h]
    simp [lval]
  · rw [List.take_of_length_le (by omega), List.take_of_length_le (by omega), List.getD_eq_getElem?_getD, List.getElem?_eq_none (by omega)]
    simp
theorem lval_snoc (B : Nat) (l : List Nat) (x : Nat) : lval B (l ++ [x]) = lval B l + B ^ l.length * x := by
  rw [lval_append]; simp [lval]
theorem lval_drop (B : Nat) (l : List Nat) (i : Nat) (h : i < l.length) : lval B (l.drop i) = l.getD i 0 + B * lval B (l.drop (i + 1)) := by
  rw [List.drop_eq_getElem_cons h, lval, List.getD_eq_getElem?_getD, List.getElem?_eq_getElem h]; rfl
theorem lval_set (B : Nat) : ∀ (l : List Nat) (k v : Nat), k < l.length → lval B (l.set k v) + B ^ k * l.getD k 0 = lval B l + B ^ k * v
  | [], _, _, h => by simp at h
  | x :: r, 0, v, _ => by simp [lval]; omega
  | x :: r, k + 1, v, h => by
    have ih := lval_set B r k v (by simpa using h)
    simp only [List.set_cons_succ, lval, List.getD_cons_succ, Nat.pow_succ]
    have e : B * lval B (r.set k v) + B * (B ^ k * r.getD k 0) = B * lval B r + B * (B ^ k * v) := by rw [← Nat.mul_add, ih, Nat.mul_add]
    rw [Nat.mul_comm (B ^ k) B, Nat.mul_assoc, Nat.mul_assoc]
    omega
theorem Small.set {B : Nat} {l : List Nat} {k v : Nat} (h : Small B l) (hv : v < B) : Small B (l.set k v) := by
  intro x hx
  rcases List.mem_or_eq_of_mem_set hx with hx | rfl
  · exact h x hx
  · exact hv

/-- a round of plus -/
theorem plus_round {B : Nat} {a b o : List Nat} {i c n : Nat} (ho : o.length = i)
    (h : lval B o + B ^ i * c = lval B (a.take i) + lval B (b.take i)) (hn : n = a.getD i 0 + c + b.getD i 0) :
    lval B (o ++ [n % B]) + B ^ (i + 1) * (n / B) = lval B (a.take (i + 1)) + lval B (b.take (i + 1)) := by
  rw [lval_take_succ, lval_take_succ, lval_snoc, ho, Nat.pow_succ, Nat.mul_assoc, Nat.add_assoc, ← Nat.mul_add, Nat.mod_add_div, hn]
  have : B ^ i * (a.getD i 0 + c + b.getD i 0) = B ^ i * a.getD i 0 + B ^ i * c + B ^ i * b.getD i 0 := by rw [Nat.mul_add, Nat.mul_add]
  omega
/-- a round of minus: 'n' is the new digit, 'd' what is borrowed of the next place -/
theorem minus_round {B : Nat} {a b o : List Nat} {i c d n : Nat} (ho : o.length = i)
    (h : lval B (a.take i) + B ^ i * c = lval B o + lval B (b.take i)) (hn : a.getD i 0 + B * d = n + c + b.getD i 0) :
    lval B (a.take (i + 1)) + B ^ (i + 1) * d = lval B (o ++ [n]) + lval B (b.take (i + 1)) := by
  rw [lval_take_succ, lval_take_succ, lval_snoc, ho, Nat.pow_succ, Nat.mul_assoc]
  have : B ^ i * (a.getD i 0 + B * d) = B ^ i * (n + c + b.getD i 0) := by rw [hn]
  rw [Nat.mul_add, Nat.mul_add, Nat.mul_add] at this
  omega
/-- a round of the inner loop of times -/
theorem times_round {B : Nat} {o o' b : List Nat} {x i j c n s : Nat} (hk : i + j < o.length)
    (h : lval B o + B ^ (i + j) * c = s + B ^ i * (x * lval B (b.take j))) (hn : n = o.getD (i + j) 0 + x * b.getD j 0 + c) (ho : o' = o.set (i + j) (n % B)) :
    lval B o' + B ^ (i + (j + 1)) * (n / B) = s + B ^ i * (x * lval B (b.take (j + 1))) := by
  have h1 := lval_set B o (i + j) (n % B) hk
  have h2 : B ^ (i + (j + 1)) = B ^ (i + j) * B := by rw [← Nat.add_assoc, Nat.pow_succ]
  have h3 : B ^ (i + j) * (n % B) + B ^ (i + j) * B * (n / B) = B ^ (i + j) * n := by rw [Nat.mul_assoc, ← Nat.mul_add, Nat.mod_add_div]
  have h4 : B ^ (i + j) * n = B ^ (i + j) * o.getD (i + j) 0 + B ^ (i + j) * (x * b.getD j 0) + B ^ (i + j) * c := by rw [hn, Nat.mul_add, Nat.mul_add]
  have h5 : B ^ i * (x * (lval B (b.take j) + B ^ j * b.getD j 0)) = B ^ i * (x * lval B (b.take j)) + B ^ (i + j) * (x * b.getD j 0) := by
    rw [Nat.pow_add]; grind
  rw [ho, h2, lval_take_succ, h5]
  omega
/-- the number that a round of times makes stays below the square -/
theorem times_fits {B o x y c : Nat} (hB : 2 ≤ B) (ho : o < B) (hx : x < B) (hy : y < B) (hc : c < B) : o + x * y + c < B * B := by
  obtain ⟨b, rfl⟩ : ∃ b, B = b + 1 := ⟨B - 1, by omega⟩
  have h : x * y ≤ b * b := Nat.mul_le_mul (by omega) (by omega)
  have : (b + 1) * (b + 1) = b * b + 2 * b + 1 := by grind
  omega
/-- the end of an inner loop of times, where the place that takes the carry held 0 -/
theorem times_row {B : Nat} {o b : List Nat} {x i c s : Nat} (hk : i + b.length < o.length) (hz : o.getD (i + b.length) 0 = 0)
    (h : lval B o + B ^ (i + b.length) * c = s + B ^ i * (x * lval B (b.take b.length))) :
    lval B (o.set (i + b.length) c) = s + B ^ i * (x * lval B b) := by
  have h1 := lval_set B o (i + b.length) c hk
  rw [hz] at h1
  rw [List.take_length] at h
  omega
/-- a round of the outer loop of times -/
theorem times_outer {B : Nat} {a b : List Nat} {i s : Nat} (hs : s = lval B (a.take i) * lval B b) :
    s + B ^ i * (a.getD i 0 * lval B b) = lval B (a.take (i + 1)) * lval B b := by
  rw [lval_take_succ, hs]; grind
/-- a round of divide -/
theorem div_round {B b r q A x : Nat} (h : A = q * b + r) :
    x + B * A = ((x + B * r) / b + B * q) * b + (x + B * r) % b := by
  have := Nat.div_add_mod (x + B * r) b
  subst h
  grind
theorem div_digit {B b r x : Nat} (hx : x < B) (hr : r < b) : (x + B * r) / b < B := by
  apply Nat.div_lt_of_lt_mul
  have : B * (r + 1) ≤ B * b := Nat.mul_le_mul_left B hr
  rw [Nat.mul_comm b B]
  rw [Nat.mul_add] at this
  omega
theorem limbs_length_mono {B a b : Nat} (hB : 2 ≤ B) (h : b ≤ a) : (limbs B b).length ≤ (limbs B a).length := by
  apply limbs_lt_length hB
  have := lval_lt (B := B) (by omega) (limbs_small hB a)
  rw [lval_limbs hB] at this
  omega
theorem lt_of_length_lt {B a b : Nat} (hB : 2 ≤ B) (h : (limbs B a).length < (limbs B b).length) : a < b := by
  have h1 := limbs_length_mono (B := B) (a := a) (b := b) hB
  rcases Nat.lt_or_ge a b with h2 | h2
  · exact h2
  · have := h1 h2; omega
/-- comparing from the last place on -/
theorem lval_lt_of_top {B : Nat} {a b : List Nat} {i : Nat} (ha : Small B a) (hB : 2 ≤ B) (hla : i < a.length) (hl : a.length = b.length)
    (he : a.drop (i + 1) = b.drop (i + 1)) (hlt : a.getD i 0 < b.getD i 0) : lval B a < lval B b := by
  have e1 : lval B a = lval B (a.take i) + B ^ i * lval B (a.drop i) := by
    have := lval_append B (a.take i) (a.drop i)
    rwa [List.take_append_drop, List.length_take, Nat.min_eq_left (by omega)] at this
  have e2 : lval B b = lval B (b.take i) + B ^ i * lval B (b.drop i) := by
    have := lval_append B (b.take i) (b.drop i)
    rwa [List.take_append_drop, List.length_take, Nat.min_eq_left (by omega)] at this
  rw [e1, e2, lval_drop B a i hla, lval_drop B b i (by omega), he]
  have h1 := lval_lt (B := B) (by omega) (ha.take i)
  rw [List.length_take, Nat.min_eq_left (by omega)] at h1
  have h2 : B ^ i * (a.getD i 0 + 1 + B * lval B (b.drop (i + 1))) ≤ B ^ i * (b.getD i 0 + B * lval B (b.drop (i + 1))) := Nat.mul_le_mul_left _ (by omega)
  rw [Nat.mul_add, Nat.mul_add] at h2
  rw [Nat.mul_add]
  omega

/-! ### Numerals and limbs -/
def pad9 (b : Nat) : List UInt8 := List.replicate (9 - (decDigits b).length) 48 ++ decDigits b
theorem nval_replicate (k : Nat) : nval (List.replicate k 48) = 0 := by
  induction k with
  | zero => rfl
  | succ k ih =>
    rw [List.replicate_succ', nval_append, ih, nval_one]
    simp
theorem digs_replicate (k : Nat) : digs (List.replicate k 48) = true := by
  simp [digs, dig]
theorem nDigits_le_of_lt {k u : Nat} (hk : 1 ≤ k) (h : u < 10 ^ k) : nDigits u ≤ k := by
  induction u using Nat.strongRecOn generalizing k with
  | _ u ih =>
    by_cases h10 : u < 10
    · rw [nDigits_small h10]; exact hk
    · rw [nDigits_big h10]
      obtain ⟨m, rfl⟩ : ∃ m, k = m + 1 := ⟨k - 1, by omega⟩
      rw [Nat.pow_succ] at h
      by_cases hm : m = 0
      · subst hm; simp at h; omega
      · have := ih (u / 10) (by omega) (k := m) (by omega) (by omega)
        omega
theorem decDigits_length_le {k u : Nat} (hk : 1 ≤ k) (h : u < 10 ^ k) : (decDigits u).length ≤ k := by
  rw [decDigits_length]; exact nDigits_le_of_lt hk h
theorem pad9_length {b : Nat} (h : b < 1000000000) : (pad9 b).length = 9 := by
  have := decDigits_length_le (k := 9) (u := b) (by omega) (by simpa using h)
  simp [pad9]
  omega
theorem nval_pad9 (b : Nat) : nval (pad9 b) = b := by
  rw [pad9, nval_append, nval_replicate, nval_decDigits]; simp
theorem digs_pad9 (b : Nat) : digs (pad9 b) = true := digs_append.2 ⟨digs_replicate _, digs_decDigits b⟩
theorem decDigits_cat {a b : Nat} (ha : a ≠ 0) (hb : b < 1000000000) : decDigits (b + 1000000000 * a) = decDigits a ++ pad9 b := by
  obtain ⟨c, r, e, hc⟩ := decDigits_head ha
  have h := (decDigits_nval (decDigits a ++ pad9 b) (digs_append.2 ⟨digs_decDigits a, digs_pad9 b⟩) ⟨c, r ++ pad9 b, by rw [e]; rfl, hc⟩).1
  rw [nval_append, nval_decDigits, nval_pad9, pad9_length hb] at h
  rw [← h]
  congr 1
  omega
/-- the digits of a list of bytes, the last one first -/
def revDigs (l : List UInt8) : List Nat := l.reverse.map fun c => c.toNat - 48
theorem lval_revDigs (l : List UInt8) : lval 10 (revDigs l) = nval l := by
  induction l using snoc_ind with
  | nil => rfl
  | snoc l c ih =>
    rw [nval_append, nval_one, ← ih]
    simp only [revDigs, List.reverse_append, List.reverse_singleton, List.singleton_append, List.map_cons, lval, List.length_singleton, Nat.pow_one]
    omega
theorem small_revDigs {l : List UInt8} (h : digs l = true) : Small 10 (revDigs l) := by
  intro x hx
  simp only [revDigs, List.mem_map, List.mem_reverse] at hx
  obtain ⟨c, hc, rfl⟩ := hx
  have := List.all_eq_true.1 h c hc
  simp only [dig, Bool.and_eq_true, decide_eq_true_eq] at this
  omega
theorem revDigs_limbs {l : List UInt8} (h : digs l = true) (hh : ∃ c r, l = c :: r ∧ c.toNat ≠ 48) : revDigs l = limbs 10 (nval l) := by
  rw [← lval_revDigs l]
  refine limbs_unique (by omega) _ (small_revDigs h) fun hne => ?_
  obtain ⟨c, r, rfl, hc⟩ := hh
  have hd := List.all_eq_true.1 h c (by simp)
  simp only [dig, Bool.and_eq_true, decide_eq_true_eq] at hd
  simp [revDigs]
  omega
theorem limbs10_decDigits {n : Nat} (hn : n ≠ 0) : (limbs 10 n).reverse.map (fun d => UInt8.ofNat (48 + d)) = decDigits n := by
  induction n using Nat.strongRecOn with
  | _ n ih =>
    rw [limbs_step (by omega) hn, List.reverse_cons, List.map_append]
    by_cases h : n < 10
    · rw [decDigits_small h, Nat.div_eq_of_lt h, limbs_zero, Nat.mod_eq_of_lt h]; rfl
    · rw [decDigits_big h, ih (n / 10) (by omega) (by omega)]; rfl
/-- a round of parse: the last nine digits are cut off -/
theorem parse_round' {B : Nat} {D d e : List UInt8} {x : List Nat} (h : nval D = lval B x + B ^ x.length * nval (d ++ e)) (he : 10 ^ e.length = B ∨ d = []) :
    nval D = lval B (x ++ [nval e]) + B ^ (x.length + 1) * nval d := by
  rw [lval_snoc, h, nval_append, Nat.pow_succ]
  rcases he with he | rfl
  · rw [he, Nat.mul_add, Nat.mul_comm (nval d) B, ← Nat.mul_assoc]; omega
  · simp [nval_nil]
theorem parse_round {D d e : List UInt8} {x : List Nat} (h : nval D = lval 1000000000 x + 1000000000 ^ x.length * nval (d ++ e)) (he : e.length = 9 ∨ d = []) :
    nval D = lval 1000000000 (x ++ [nval e]) + 1000000000 ^ (x.length + 1) * nval d :=
  parse_round' h (he.imp (fun e => by rw [e]) id)
theorem mag_length_le (s : List UInt8) : (mag s).length ≤ s.length := by
  cases s with
  | nil => simp [mag]
  | cons c r => simp only [mag]; split <;> simp
theorem parseUintM_digs : ∀ (l : List UInt8) (M acc : Nat), digs l = true → acc * 10 ^ l.length + nval l ≤ M → M < 18446744073709551616 → parseUintM M acc l = .ok (acc * 10 ^ l.length + nval l)
  | [], M, acc, _, _, _ => by simp [parseUintM, nval]
  | c :: r, M, acc, h, hM, hlt => by
    have hc : dig c = true := by simp [digs] at h; exact h.1
    have hr : digs r = true := by simp [digs] at h ⊢; exact h.2
    simp only [dig, Bool.and_eq_true, decide_eq_true_eq] at hc
    have e : nval (c :: r) = (c.toNat - 48) * 10 ^ r.length + nval r := by
      have := nval_append [c] r
      rwa [nval_one] at this
    have e2 : acc * 10 ^ (c :: r).length + nval (c :: r) = (acc * 10 + (c.toNat - 48)) * 10 ^ r.length + nval r := by
      rw [e, List.length_cons, Nat.pow_succ]; grind
    have hp : 1 ≤ 10 ^ r.length := Nat.one_le_pow _ _ (by omega)
    have hle : acc * 10 + (c.toNat - 48) ≤ M := by
      have : (acc * 10 + (c.toNat - 48)) * 1 ≤ (acc * 10 + (c.toNat - 48)) * 10 ^ r.length := Nat.mul_le_mul_left _ hp
      omega
    rw [parseUintM, if_pos hc, if_neg (by omega), if_neg (by omega), parseUintM_digs r M _ hr (by omega) hlt, e2]
theorem parseUint32 {l : List UInt8} (h : digs l = true) (h0 : l ≠ []) (h9 : l.length ≤ 9) : parseUintB 32 l = .ok (nval l) := by
  have h1 := nval_lt l h
  have h2 : 10 ^ l.length ≤ 10 ^ 9 := Nat.pow_le_pow_right (by omega) h9
  rw [parseUintB, if_neg h0, parseUintM_digs l _ 0 h (by simp; omega) (by decide)]
  simp
theorem parseInt64_dec {s : List UInt8} (h : isDec s = true) (h18 : s.length ≤ 18) : parseIntB 64 s = .ok (dval s) := by
  by_cases h0 : s = [48]
  · subst h0; decide
  · obtain ⟨hd, hh⟩ := (isDec_iff h0).1 h
    have hne : mag s ≠ [] := by obtain ⟨c, r, e, _⟩ := hh; rw [e]; simp
    have hl : (mag s).length ≤ 18 := Nat.le_trans (mag_length_le s) h18
    have h1 := nval_lt _ hd
    have h2 : 10 ^ (mag s).length ≤ 10 ^ 18 := Nat.pow_le_pow_right (by omega) hl
    have hp : parseUintB 64 (mag s) = .ok (nval (mag s)) := by
      rw [parseUintB, if_neg hne, parseUintM_digs _ _ 0 hd (by simp; omega) (by decide)]; simp
    have hv : dval s = if neg s then -(nval (mag s) : Int) else nval (mag s) := by unfold dval; rw [if_pos h]
    cases s with
    | nil => simp [mag] at hne
    | cons c r =>
      have e45 : (c.toNat = 45) ↔ c = 45 := ⟨fun e => UInt8.toNat_inj.1 (by simpa using e), fun e => by subst e; rfl⟩
      by_cases hc : c = 45
      · subst hc
        rw [mag_cons45] at hp h1 h2
        rw [hv]
        simp only [parseIntB, neg_cons45, mag_cons45]
        rw [if_pos (Or.inr (by decide)), hp]
        simp only [if_true]
        rw [if_neg (by intro h; exact h.1 (by decide)), if_neg (by intro h; have := h.2; omega), if_pos (by decide)]
      · have hng : neg (c :: r) = false := by simp [neg, hc]
        have hm := mag_of_not hng
        rw [hm] at hp h1 h2 hd
        have hc43 : c.toNat ≠ 43 := by
          intro e
          have := List.all_eq_true.1 hd c (by simp)
          simp [dig, e] at this
        have hc45 : c.toNat ≠ 45 := fun e => hc (e45.1 e)
        rw [hv, hng, hm]
        simp only [parseIntB]
        rw [if_neg (by omega), hp]
        simp only [Bool.false_eq_true, if_false]
        rw [if_neg (by intro h; have := h.2; omega), if_neg (by intro h; exact hc45 h.1), if_neg hc45]
end Go.Proofs.YtgphkgmhcmffnaaGreatDoor.Dec
