/- Plain arithmetic of decimals and limbs: what the Go texts of chapter 1 compute, with no program in sight. -/
import Derived.Lib.ItoaMem
import Derived.Lib.ParseIntB
import Derived.Lib.AtoiAll
import Derived.Lib.Strings
namespace Go.Proofs.YtcdgckbdplkdbaaDoor.Dec
open Go Go.Lib

/-! ### Lists of limbs, the least one first -/
def lval (B : Nat) : List Nat → Nat
  | [] => 0
  | x :: r => x + B * lval B r
def limbsF (B : Nat) : Nat → Nat → List Nat
  | 0, _ => []
  | f + 1, n => if n = 0 then [] else n % B :: limbsF B f (n / B)
def limbs (B n : Nat) : List Nat := limbsF B n n
def Small (B : Nat) (l : List Nat) : Prop := ∀ x ∈ l, x < B
def trimZ (l : List Nat) : List Nat := (l.reverse.dropWhile (· == 0)).reverse

theorem limbsF_fuel (B : Nat) (hB : 2 ≤ B) : ∀ (f g n : Nat), n ≤ f → n ≤ g → limbsF B f n = limbsF B g n
  | 0, 0, _, _, _ => rfl
  | 0, g + 1, n, h, _ => by have : n = 0 := by omega
                            subst this; simp [limbsF]
  | f + 1, 0, n, _, h => by have : n = 0 := by omega
                            subst this; simp [limbsF]
  | f + 1, g + 1, n, h1, h2 => by
    by_cases hn : n = 0
    · subst hn; simp [limbsF]
    · have hd : n / B < n := Nat.div_lt_self (by omega) (by omega)
      simp only [limbsF, hn, if_false]
      rw [limbsF_fuel B hB f g (n / B) (by omega) (by omega)]
theorem limbs_zero (B : Nat) : limbs B 0 = [] := rfl
theorem limbs_step {B n : Nat} (hB : 2 ≤ B) (hn : n ≠ 0) : limbs B n = n % B :: limbs B (n / B) := by
  have hd : n / B < n := Nat.div_lt_self (by omega) (by omega)
  obtain ⟨m, rfl⟩ : ∃ m, n = m + 1 := ⟨n - 1, by omega⟩
  unfold limbs
  rw [limbsF, if_neg hn, limbsF_fuel B hB m ((m + 1) / B) _ (by omega) (Nat.le_refl _)]
theorem lval_limbs {B : Nat} (hB : 2 ≤ B) (n : Nat) : lval B (limbs B n) = n := by
  induction n using Nat.strongRecOn with
  | _ n ih =>
    by_cases hn : n = 0
    · subst hn; rfl
    · rw [limbs_step hB hn, lval, ih (n / B) (Nat.div_lt_self (by omega) (by omega))]
      exact Nat.mod_add_div n B
theorem limbs_small {B : Nat} (hB : 2 ≤ B) (n : Nat) : Small B (limbs B n) := by
  induction n using Nat.strongRecOn with
  | _ n ih =>
    by_cases hn : n = 0
    · subst hn; intro x hx; cases hx
    · rw [limbs_step hB hn]
      intro x hx
      rcases List.mem_cons.1 hx with rfl | hx
      · exact Nat.mod_lt _ (by omega)
      · exact ih (n / B) (Nat.div_lt_self (by omega) (by omega)) x hx
theorem limbs_eq_nil {B n : Nat} (hB : 2 ≤ B) : limbs B n = [] ↔ n = 0 := by
  constructor
  · intro h; rw [← lval_limbs hB n, h]; rfl
  · rintro rfl; rfl
theorem limbs_getLast {B : Nat} (hB : 2 ≤ B) (n : Nat) : ∀ h : limbs B n ≠ [], (limbs B n).getLast h ≠ 0 := by
  induction n using Nat.strongRecOn with
  | _ n ih =>
    intro h
    have hn : n ≠ 0 := fun e => h (by subst e; rfl)
    have e := limbs_step hB hn
    by_cases hq : n / B = 0
    · have : limbs B n = [n % B] := by rw [e, hq]; rfl
      simp only [this, List.getLast_singleton]
      have := Nat.mod_add_div n B
      rw [hq] at this
      omega
    · have hne : limbs B (n / B) ≠ [] := fun h' => hq ((limbs_eq_nil hB).1 h')
      have := ih (n / B) (Nat.div_lt_self (by omega) (by omega)) hne
      have key : ∀ (l : List Nat) (h : l ≠ []), l = n % B :: limbs B (n / B) → l.getLast h ≠ 0 := by
        rintro _ h rfl
        rw [List.getLast_cons hne]
        exact this
      exact key _ h e
theorem lval_append (B : Nat) (l r : List Nat) : lval B (l ++ r) = lval B l + B ^ l.length * lval B r := by
  induction l with
  | nil => simp [lval]
  | cons x l ih =>
    simp only [List.cons_append, lval, ih, List.length_cons, Nat.pow_succ]
    rw [Nat.mul_add, Nat.mul_comm (B ^ l.length) B, Nat.mul_assoc]
    omega
theorem lval_lt {B : Nat} (hB : 1 ≤ B) : ∀ {l : List Nat}, Small B l → lval B l < B ^ l.length
  | [], _ => by simp [lval]
  | x :: r, h => by
    have h1 : x < B := h x (by simp)
    have h2 := lval_lt hB (l := r) (fun y hy => h y (by simp [hy]))
    simp only [lval, List.length_cons, Nat.pow_succ]
    have : B * (lval B r + 1) ≤ B * B ^ r.length := Nat.mul_le_mul_left B h2
    rw [Nat.mul_add] at this
    rw [Nat.mul_comm (B ^ r.length) B]
    omega
theorem Small.cons {B x : Nat} {l : List Nat} (h : x < B) (hl : Small B l) : Small B (x :: l) := by
  intro y hy
  rcases List.mem_cons.1 hy with rfl | hy
  · exact h
  · exact hl y hy
theorem Small.append {B : Nat} {l r : List Nat} (hl : Small B l) (hr : Small B r) : Small B (l ++ r) := by
  intro y hy
  rcases List.mem_append.1 hy with hy | hy
  · exact hl y hy
  · exact hr y hy
theorem Small.nil {B : Nat} : Small B [] := fun _ h => by cases h
theorem Small.take {B : Nat} {l : List Nat} (h : Small B l) (k : Nat) : Small B (l.take k) := fun x hx => h x (List.mem_of_mem_take hx)
theorem Small.drop {B : Nat} {l : List Nat} (h : Small B l) (k : Nat) : Small B (l.drop k) := fun x hx => h x (List.mem_of_mem_drop hx)
theorem Small.getD {B : Nat} {l : List Nat} (hB : 1 ≤ B) (h : Small B l) (k : Nat) : l.getD k 0 < B := by
  by_cases hk : k < l.length
  · rw [List.getD_eq_getElem?_getD, List.getElem?_eq_getElem hk]; exact h _ (List.getElem_mem hk)
  · rw [List.getD_eq_getElem?_getD, List.getElem?_eq_none (by omega)]; simp; omega

/-- the canonical list is the only one without a zero at its end -/
theorem limbs_unique {B : Nat} (hB : 2 ≤ B) : ∀ (l : List Nat), Small B l → (∀ h : l ≠ [], l.getLast h ≠ 0) → l = limbs B (lval B l)
  | [], _, _ => rfl
  | x :: r, hs, hl => by
    have hx : x < B := hs x (by simp)
    have hr : Small B r := fun y hy => hs y (by simp [hy])
    have hrl : ∀ h : r ≠ [], r.getLast h ≠ 0 := fun h => by
      have := hl (by simp)
      rwa [List.getLast_cons h] at this
    have ih := limbs_unique hB r hr hrl
    have hv : x + B * lval B r ≠ 0 := by
      by_cases hn : r = []
      · subst hn
        have := hl (by simp)
        simp only [List.getLast_singleton] at this
        omega
      · have h0 : lval B r ≠ 0 := fun e => hn (by rw [ih, e]; rfl)
        have : 0 < B * lval B r := Nat.mul_pos (by omega) (by omega)
        omega
    simp only [lval]
    rw [limbs_step hB hv, Nat.add_mul_mod_self_left, Nat.mod_eq_of_lt hx, Nat.add_mul_div_left _ _ (by omega), Nat.div_eq_of_lt hx, Nat.zero_add, ← ih]

theorem trimZ_nil : trimZ [] = [] := rfl
theorem trimZ_snoc_zero (l : List Nat) : trimZ (l ++ [0]) = trimZ l := by simp [trimZ]
theorem trimZ_snoc {x : Nat} (hx : x ≠ 0) (l : List Nat) : trimZ (l ++ [x]) = l ++ [x] := by
  simp [trimZ, hx]
theorem lval_zero_snoc (B : Nat) (l : List Nat) : lval B (l ++ [0]) = lval B l := by simp [lval_append, lval]
theorem trimZ_limbs {B : Nat} (hB : 2 ≤ B) (l : List Nat) (hs : Small B l) : trimZ l = limbs B (lval B l) := by
  induction hk : l.length generalizing l with
  | zero => obtain rfl : l = [] := List.eq_nil_of_length_eq_zero hk
            rfl
  | succ k ih =>
    obtain ⟨r, x, rfl⟩ : ∃ r x, l = r ++ [x] := ⟨l.dropLast, l.getLast (by intro e; subst e; simp at hk), (List.dropLast_concat_getLast _).symm⟩
    by_cases hx : x = 0
    · subst hx
      rw [trimZ_snoc_zero, lval_zero_snoc, ih r (fun y hy => hs y (by simp [hy])) (by simpa using hk)]
    · rw [trimZ_snoc hx]
      exact limbs_unique hB _ hs (fun h => by simpa using hx)
theorem limbs_lt_length {B n k : Nat} (hB : 2 ≤ B) (h : n < B ^ k) : (limbs B n).length ≤ k := by
  induction k generalizing n with
  | zero => simp at h; subst h; simp [limbs_zero]
  | succ k ih =>
    by_cases hn : n = 0
    · subst hn; simp [limbs_zero]
    · rw [limbs_step hB hn, List.length_cons]
      have : n / B < B ^ k := Nat.div_lt_of_lt_mul (by rw [Nat.pow_succ, Nat.mul_comm] at h; exact h)
      have := ih this
      omega
theorem le_of_limbs_length {B n : Nat} (hB : 2 ≤ B) (hn : n ≠ 0) : B ^ ((limbs B n).length - 1) ≤ n := by
  induction n using Nat.strongRecOn with
  | _ n ih =>
    rw [limbs_step hB hn, List.length_cons, Nat.add_sub_cancel]
    by_cases hq : n / B = 0
    · rw [hq, limbs_zero]; simp; omega
    · have := ih (n / B) (Nat.div_lt_self (by omega) (by omega)) hq
      have hl : (limbs B (n / B)).length ≠ 0 := fun e => hq ((limbs_eq_nil hB).1 (List.eq_nil_of_length_eq_zero e))
      obtain ⟨m, hm⟩ : ∃ m, (limbs B (n / B)).length = m + 1 := ⟨_, (Nat.succ_pred hl).symm⟩
      rw [hm, Nat.add_sub_cancel] at this
      rw [hm, Nat.pow_succ]
      calc B ^ m * B ≤ (n / B) * B := Nat.mul_le_mul_right B this
        _ ≤ n := Nat.div_mul_le_self n B

/-! ### Bytes that are digits -/
def dig (c : UInt8) : Bool := decide (48 ≤ c.toNat) && decide (c.toNat ≤ 57)
def digs (l : List UInt8) : Bool := l.all dig
def nval (l : List UInt8) : Nat := l.foldl (fun a c => a * 10 + (c.toNat - 48)) 0
theorem foldl_nval (l : List UInt8) : ∀ a : Nat, l.foldl (fun a c => a * 10 + (c.toNat - 48)) a = a * 10 ^ l.length + nval l := by
  induction l with
  | nil => intro a; simp [nval]
  | cons c l ih =>
    intro a
    simp only [List.foldl_cons, nval, List.length_cons]
    rw [ih (a * 10 + (c.toNat - 48)), ih (0 * 10 + (c.toNat - 48)), Nat.pow_succ, Nat.add_mul, Nat.mul_assoc, Nat.mul_comm 10]
    simp only [Nat.zero_mul, Nat.zero_add]
    omega
theorem nval_append (l r : List UInt8) : nval (l ++ r) = nval l * 10 ^ r.length + nval r := by
  unfold nval
  rw [List.foldl_append, foldl_nval]
  rfl
theorem nval_nil : nval [] = 0 := rfl
theorem nval_one (c : UInt8) : nval [c] = c.toNat - 48 := by simp [nval]
theorem snoc_ind {α : Type} {motive : List α → Prop} (nil : motive []) (snoc : ∀ l c, motive l → motive (l ++ [c])) : ∀ l, motive l := by
  intro l
  rw [← List.reverse_reverse l]
  induction l.reverse with
  | nil => exact nil
  | cons c r ih => rw [List.reverse_cons]; exact snoc _ _ ih
theorem nval_lt (l : List UInt8) (h : digs l = true) : nval l < 10 ^ l.length := by
  induction l using snoc_ind with
  | nil => simp [nval]
  | snoc l c ih =>
    have hc : dig c = true := by simp [digs] at h; exact h.2
    have hl : digs l = true := by simp [digs] at h ⊢; exact h.1
    have := ih hl
    rw [nval_append, nval_one, List.length_append, List.length_singleton, Nat.pow_succ]
    simp [dig] at hc
    omega

/-! ### The numeral -/
theorem decDigits_small {u : Nat} (h : u < 10) : decDigits u = [UInt8.ofNat (48 + u)] := by rw [decDigits, dif_pos h]
theorem decDigits_big {u : Nat} (h : ¬ u < 10) : decDigits u = decDigits (u / 10) ++ [UInt8.ofNat (48 + u % 10)] := by rw [decDigits, dif_neg h]
theorem ofNat_toNat {d : Nat} (h : d < 10) : (UInt8.ofNat (48 + d)).toNat = 48 + d := by
  rw [UInt8.toNat_ofNat']
  omega
theorem dig_ofNat {d : Nat} (h : d < 10) : dig (UInt8.ofNat (48 + d)) = true := by
  simp only [dig, ofNat_toNat h, Bool.and_eq_true, decide_eq_true_eq]
  omega
theorem digs_decDigits (u : Nat) : digs (decDigits u) = true := by
  induction u using Nat.strongRecOn with
  | _ u ih =>
    by_cases h : u < 10
    · rw [decDigits_small h, digs, List.all_cons, dig_ofNat h]; rfl
    · rw [decDigits_big h]
      have := ih (u / 10) (by omega)
      have h2 := dig_ofNat (d := u % 10) (by omega)
      simp only [digs, List.all_append, Bool.and_eq_true] at this ⊢
      exact ⟨this, by rw [List.all_cons, h2]; rfl⟩
theorem nval_decDigits (u : Nat) : nval (decDigits u) = u := by
  induction u using Nat.strongRecOn with
  | _ u ih =>
    by_cases h : u < 10
    · rw [decDigits_small h, nval_one, ofNat_toNat h]; omega
    · rw [decDigits_big h, nval_append, ih (u / 10) (by omega), nval_one, ofNat_toNat (by omega)]
      simp only [List.length_singleton, Nat.pow_one]
      omega
theorem decDigits_ne_nil (u : Nat) : decDigits u ≠ [] := by
  by_cases h : u < 10
  · rw [decDigits_small h]; simp
  · rw [decDigits_big h]; simp
theorem decDigits_head {u : Nat} (hu : u ≠ 0) : ∃ c r, decDigits u = c :: r ∧ c.toNat ≠ 48 := by
  induction u using Nat.strongRecOn with
  | _ u ih =>
    by_cases h : u < 10
    · exact ⟨_, _, decDigits_small h, by rw [ofNat_toNat h]; omega⟩
    · obtain ⟨c, r, e, hc⟩ := ih (u / 10) (by omega) (by omega)
      exact ⟨c, r ++ [UInt8.ofNat (48 + u % 10)], by rw [decDigits_big h, e]; rfl, hc⟩
theorem digs_snoc {l : List UInt8} {c : UInt8} : digs (l ++ [c]) = true ↔ digs l = true ∧ dig c = true := by
  simp [digs, List.all_append]
theorem digs_append {l r : List UInt8} : digs (l ++ r) = true ↔ digs l = true ∧ digs r = true := by
  simp [digs, List.all_append]
theorem byte_of_dig {c : UInt8} (h : dig c = true) : c = UInt8.ofNat (48 + (c.toNat - 48)) := by
  simp only [dig, Bool.and_eq_true, decide_eq_true_eq] at h
  rw [Nat.add_sub_cancel' h.1, UInt8.ofNat_toNat]
/-- digits without a zero ahead are the numeral of what they spell -/
theorem decDigits_nval (l : List UInt8) : digs l = true → (∃ c r, l = c :: r ∧ c.toNat ≠ 48) → decDigits (nval l) = l ∧ nval l ≠ 0 := by
  induction l using snoc_ind with
  | nil => rintro _ ⟨c, r, h, _⟩; cases h
  | snoc l d ih =>
    intro hd hh
    obtain ⟨hl, hc⟩ := digs_snoc.1 hd
    have hcc := hc
    simp only [dig, Bool.and_eq_true, decide_eq_true_eq] at hcc
    by_cases hn : l = []
    · subst hn
      obtain ⟨c, r, h, h48⟩ := hh
      simp only [List.nil_append, List.cons.injEq] at h
      obtain ⟨rfl, rfl⟩ := h
      simp only [List.nil_append, nval_one]
      refine ⟨?_, by omega⟩
      rw [decDigits_small (by omega), ← byte_of_dig hc]
    · obtain ⟨c, r, h, h48⟩ := hh
      have hl' : ∃ c r, l = c :: r ∧ c.toNat ≠ 48 := by
        cases l with
        | nil => exact absurd rfl hn
        | cons x t => simp only [List.cons_append, List.cons.injEq] at h
                      exact ⟨x, t, rfl, by rw [h.1]; exact h48⟩
      obtain ⟨e, hz⟩ := ih hl hl'
      rw [nval_append, nval_one, List.length_singleton, Nat.pow_one]
      refine ⟨?_, by omega⟩
      rw [decDigits_big (by omega)]
      have h1 : (nval l * 10 + (d.toNat - 48)) / 10 = nval l := by omega
      have h2 : (nval l * 10 + (d.toNat - 48)) % 10 = d.toNat - 48 := by omega
      rw [h1, h2, e, ← byte_of_dig hc]

/-! ### Decimals -/
/-- the digits behind a sign -/
def mag : List UInt8 → List UInt8
  | [] => []
  | c :: r => if c = 45 then r else c :: r
def neg : List UInt8 → Bool
  | [] => false
  | c :: _ => c == 45
def isDec (s : List UInt8) : Bool := s == [48] || (match mag s with | [] => false | c :: r => c != 48 && digs (c :: r))
def dval (s : List UInt8) : Int := if isDec s then (if neg s then -(nval (mag s) : Int) else nval (mag s)) else 0
theorem neg_cons45 (r : List UInt8) : neg (45 :: r) = true := by simp [neg]
theorem mag_cons45 (r : List UInt8) : mag (45 :: r) = r := by simp [mag]
theorem mag_of_not {s : List UInt8} (h : neg s = false) : mag s = s := by
  cases s with
  | nil => rfl
  | cons c r => simp [neg] at h; simp [mag, h]
theorem cons_of_neg {s : List UInt8} (h : neg s = true) : s = 45 :: mag s := by
  cases s with
  | nil => simp [neg] at h
  | cons c r => simp [neg] at h; subst h; simp [mag]
theorem isDec_zero : isDec [48] = true := by decide
theorem isDec_iff {s : List UInt8} (h0 : s ≠ [48]) : isDec s = true ↔ (digs (mag s) = true ∧ ∃ c r, mag s = c :: r ∧ c.toNat ≠ 48) := by
  have hb : (s == [48]) = false := by simpa using h0
  unfold isDec
  rw [hb, Bool.false_or]
  cases hm : mag s with
  | nil => simp
  | cons c r =>
    simp only [Bool.and_eq_true, bne_iff_ne, ne_eq, List.cons.injEq]
    constructor
    · rintro ⟨h1, h2⟩
      refine ⟨h2, c, r, ⟨rfl, rfl⟩, fun e => h1 ?_⟩
      exact UInt8.toNat_inj.1 (by simpa using e)
    · rintro ⟨h2, c', r', ⟨rfl, rfl⟩, h1⟩
      exact ⟨fun e => h1 (by subst e; rfl), h2⟩
theorem itoa_zero : itoa 0 = [48] := by decide +kernel
theorem itoa_pos {u : Nat} : itoa (u : Int) = decDigits u := by simp [itoa]
theorem itoa_neg' {u : Nat} (h : u ≠ 0) : itoa (-(u : Int)) = 45 :: decDigits u := by
  rw [itoa, if_pos (by omega)]
  simp
theorem head_ne45 {c : UInt8} {r : List UInt8} (h : digs (c :: r) = true) : c ≠ 45 := by
  rintro rfl
  simp [digs, dig] at h
theorem dval_zero : dval [48] = 0 := by decide
/-- a decimal is the numeral of its value -/
theorem itoa_dval {s : List UInt8} (h : isDec s = true) : itoa (dval s) = s := by
  by_cases h0 : s = [48]
  · subst h0; rw [dval_zero, itoa_zero]
  · obtain ⟨hd, hh⟩ := (isDec_iff h0).1 h
    obtain ⟨e, hz⟩ := decDigits_nval _ hd hh
    unfold dval
    rw [if_pos h]
    cases hn : neg s with
    | true => rw [if_pos rfl, itoa_neg' hz, e]; exact (cons_of_neg hn).symm
    | false => rw [if_neg (by simp), itoa_pos, e, mag_of_not hn]
theorem isDec_itoa (n : Int) : isDec (itoa n) = true := by
  by_cases hz : n = 0
  · subst hz; rw [itoa_zero]; rfl
  · by_cases hn : n < 0
    · obtain ⟨u, rfl⟩ : ∃ u : Nat, n = -(u : Int) := ⟨n.natAbs, by omega⟩
      have hu : u ≠ 0 := by omega
      obtain ⟨c, r, e, hc⟩ := decDigits_head hu
      rw [itoa_neg' hu]
      refine (isDec_iff (by intro h; simp at h)).2 ?_
      rw [mag_cons45]
      exact ⟨digs_decDigits u, c, r, e, hc⟩
    · obtain ⟨u, rfl⟩ : ∃ u : Nat, n = (u : Int) := ⟨n.toNat, by omega⟩
      have hu : u ≠ 0 := by omega
      obtain ⟨c, r, e, hc⟩ := decDigits_head hu
      have hd := digs_decDigits u
      rw [itoa_pos]
      have hm : mag (decDigits u) = decDigits u := by
        rw [e] at hd ⊢
        simp [mag, head_ne45 hd]
      refine (isDec_iff ?_).2 ?_
      · intro h; rw [e] at h; simp only [List.cons.injEq] at h; exact hc (by rw [h.1]; rfl)
      · rw [hm]; exact ⟨hd, c, r, e, hc⟩
theorem dval_itoa (n : Int) : dval (itoa n) = n := by
  unfold dval
  rw [if_pos (isDec_itoa n)]
  by_cases hz : n = 0
  · subst hz; rw [itoa_zero]; rfl
  · by_cases hn : n < 0
    · obtain ⟨u, rfl⟩ : ∃ u : Nat, n = -(u : Int) := ⟨n.natAbs, by omega⟩
      have hu : u ≠ 0 := by omega
      rw [itoa_neg' hu, neg_cons45, mag_cons45, nval_decDigits]
      rfl
    · obtain ⟨u, rfl⟩ : ∃ u : Nat, n = (u : Int) := ⟨n.toNat, by omega⟩
      have hu : u ≠ 0 := by omega
      obtain ⟨c, r, e, hc⟩ := decDigits_head hu
      have hd := digs_decDigits u
      rw [itoa_pos]
      have hng : neg (decDigits u) = false := by
        rw [e] at hd ⊢
        simp [neg, head_ne45 hd]
      rw [hng, mag_of_not hng, nval_decDigits]
      rfl
theorem itoa_inj {a b : Int} (h : itoa a = itoa b) : a = b := by rw [← dval_itoa a, h, dval_itoa]
end Go.Proofs.YtcdgckbdplkdbaaDoor.Dec
