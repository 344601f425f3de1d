/- What the loops over limbs do to the value of a list: plain arithmetic, one lemma a loop's round. -/
import Derived.Test.YtcdgckbdplkdbaaDoorDec
namespace Go.Proofs.YtcdgckbdplkdbaaDoor.Dec
open Go Go.Lib

theorem lval_take_succ (B : Nat) (l : List Nat) (i : Nat) : lval B (l.take (i + 1)) = lval B (l.take i) + B ^ i * l.getD i 0 := by
  by_cases h : i < l.length
  · rw [List.take_succ_eq_append_getElem h, lval_append, List.length_take, Nat.min_eq_left (by omega), List.getD_eq_getElem?_getD, List.getElem?_eq_getElem h]
    simp [lval]
  · rw [List.take_of_length_le (by omega), List.take_of_length_le (by omega), List.getD_eq_getElem?_getD, List.getElem?_eq_none (by omega)]
    simp
theorem lval_snoc (B : Nat) (l : List Nat) (x : Nat) : lval B (l ++ [x]) = lval B l + B ^ l.length * x := by
  rw [lval_append]; simp [lval]
theorem lval_drop (B : Nat) (l : List Nat) (i : Nat) (h : i < l.length) : lval B (l.drop i) = l.getD i 0 + B * lval B (l.drop (i + 1)) := by
  rw [List.drop_eq_getElem_cons h, lval, List.getD_eq_getElem?_getD, List.getElem?_eq_getElem h]; rfl
theorem lval_set (B : Nat) : ∀ (l : List Nat) (k v : Nat), k < l.length → lval B (l.set k v) + B ^ k * l.getD k 0 = lval B l + B ^ k * v
  | [], _, _, h => by simp at h
  | x :: r, 0, v, _ => by simp [lval]; omega
  | x :: r, k + 1, v, h => by
    have ih := lval_set B r k v (by simpa using h)
    simp only [List.set_cons_succ, lval, List.getD_cons_succ, Nat.pow_succ]
    have e : B * lval B (r.set k v) + B * (B ^ k * r.getD k 0) = B * lval B r + B * (B ^ k * v) := by rw [← Nat.mul_add, ih, Nat.mul_add]
    rw [Nat.mul_comm (B ^ k) B, Nat.mul_assoc, Nat.mul_assoc]
    omega
theorem Small.set {B : Nat} {l : List Nat} {k v : Nat} (h : Small B l) (hv : v < B) : Small B (l.set k v) := by
  intro x hx
  rcases List.mem_or_eq_of_mem_set hx with hx | rfl
  · exact h x hx
  · exact hv

/-- a round of plus -/
theorem plus_round {B : Nat} {a b o : List Nat} {i c n : Nat} (ho : o.length = i)
    (h : lval B o + B ^ i * c = lval B (a.take i) + lval B (b.take i)) (hn : n = a.getD i 0 + c + b.getD i 0) :
    lval B (o ++ [n % B]) + B ^ (i + 1) * (n / B) = lval B (a.take (i + 1)) + lval B (b.take (i + 1)) := by
  rw [lval_take_succ, lval_take_succ, lval_snoc, ho, Nat.pow_succ, Nat.mul_assoc, Nat.add_assoc, ← Nat.mul_add, Nat.mod_add_div, hn]
  have : B ^ i * (a.getD i 0 + c + b.getD i 0) = B ^ i * a.getD i 0 + B ^ i * c + B ^ i * b.getD i 0 := by rw [Nat.mul_add, Nat.mul_add]
  omega
/-- a round of minus: 'n' is the new digit, 'd' what is borrowed of the next place -/
theorem minus_round {B : Nat} {a b o : List Nat} {i c d n : Nat} (ho : o.length = i)
    (h : lval B (a.take i) + B ^ i * c = lval B o + lval B (b.take i)) (hn : a.getD i 0 + B * d = n + c + b.getD i 0) :
    lval B (a.take (i + 1)) + B ^ (i + 1) * d = lval B (o ++ [n]) + lval B (b.take (i + 1)) := by
  rw [lval_take_succ, lval_take_succ, lval_snoc, ho, Nat.pow_succ, Nat.mul_assoc]
  have : B ^ i * (a.getD i 0 + B * d) = B ^ i * (n + c + b.getD i 0) := by rw [hn]
  rw [Nat.mul_add, Nat.mul_add, Nat.mul_add] at this
  omega
/-- a round of the inner loop of times -/
theorem times_round {B : Nat} {o o' b : List Nat} {x i j c n s : Nat} (hk : i + j < o.length)
    (h : lval B o + B ^ (i + j) * c = s + B ^ i * (x * lval B (b.take j))) (hn : n = o.getD (i + j) 0 + x * b.getD j 0 + c) (ho : o' = o.set (i + j) (n % B)) :
    lval B o' + B ^ (i + (j + 1)) * (n / B) = s + B ^ i * (x * lval B (b.take (j + 1))) := by
  have h1 := lval_set B o (i + j) (n % B) hk
  have h2 : B ^ (i + (j + 1)) = B ^ (i + j) * B := by rw [← Nat.add_assoc, Nat.pow_succ]
  have h3 : B ^ (i + j) * (n % B) + B ^ (i + j) * B * (n / B) = B ^ (i + j) * n := by rw [Nat.mul_assoc, ← Nat.mul_add, Nat.mod_add_div]
  have h4 : B ^ (i + j) * n = B ^ (i + j) * o.getD (i + j) 0 + B ^ (i + j) * (x * b.getD j 0) + B ^ (i + j) * c := by rw [hn, Nat.mul_add, Nat.mul_add]
  have h5 : B ^ i * (x * (lval B (b.take j) + B ^ j * b.getD j 0)) = B ^ i * (x * lval B (b.take j)) + B ^ (i + j) * (x * b.getD j 0) := by
    rw [Nat.pow_add]; grind
  rw [ho, h2, lval_take_succ, h5]
  omega
/-- the number that a round of times makes stays below the square -/
theorem times_fits {B o x y c : Nat} (hB : 2 ≤ B) (ho : o < B) (hx : x < B) (hy : y < B) (hc : c < B) : o + x * y + c < B * B := by
  obtain ⟨b, rfl⟩ : ∃ b, B = b + 1 := ⟨B - 1, by omega⟩
  have h : x * y ≤ b * b := Nat.mul_le_mul (by omega) (by omega)
  have : (b + 1) * (b + 1) = b * b + 2 * b + 1 := by grind
  omega
/-- the end of an inner loop of times, where the place that takes the carry held 0 -/
theorem times_row {B : Nat} {o b : List Nat} {x i c s : Nat} (hk : i + b.length < o.length) (hz : o.getD (i + b.length) 0 = 0)
    (h : lval B o + B ^ (i + b.length) * c = s + B ^ i * (x * lval B (b.take b.length))) :
    lval B (o.set (i + b.length) c) = s + B ^ i * (x * lval B b) := by
  have h1 := lval_set B o (i + b.length) c hk
  rw [hz] at h1
  rw [List.take_length] at h
  omega
/-- a round of the outer loop of times -/
theorem times_outer {B : Nat} {a b : List Nat} {i s : Nat} (hs : s = lval B (a.take i) * lval B b) :
    s + B ^ i * (a.getD i 0 * lval B b) = lval B (a.take (i + 1)) * lval B b := by
  rw [lval_take_succ, hs]; grind
/-- a round of divide -/
theorem div_round {B b r q A x : Nat} (h : A = q * b + r) :
    x + B * A = ((x + B * r) / b + B * q) * b + (x + B * r) % b := by
  have := Nat.div_add_mod (x + B * r) b
  subst h
  grind
theorem div_digit {B b r x : Nat} (hx : x < B) (hr : r < b) : (x + B * r) / b < B := by
  apply Nat.div_lt_of_lt_mul
  have : B * (r + 1) ≤ B * b := Nat.mul_le_mul_left B hr
  rw [Nat.mul_comm b B]
  rw [Nat.mul_add] at this
  omega
theorem limbs_length_mono {B a b : Nat} (hB : 2 ≤ B) (h : b ≤ a) : (limbs B b).length ≤ (limbs B a).length := by
  apply limbs_lt_length hB
  have := lval_lt (B := B) (by omega) (limbs_small hB a)
  rw [lval_limbs hB] at this
  omega
theorem lt_of_length_lt {B a b : Nat} (hB : 2 ≤ B) (h : (limbs B a).length < (limbs B b).length) : a < b := by
  have h1 := limbs_length_mono (B := B) (a := a) (b := b) hB
  rcases Nat.lt_or_ge a b with h2 | h2
  · exact h2
  · have := h1 h2; omega
/-- comparing from the last place on -/
theorem lval_lt_of_top {B : Nat} {a b : List Nat} {i : Nat} (ha : Small B a) (hB : 2 ≤ B) (hla : i < a.length) (hl : a.length = b.length)
    (he : a.drop (i + 1) = b.drop (i + 1)) (hlt : a.getD i 0 < b.getD i 0) : lval B a < lval B b := by
  have e1 : lval B a = lval B (a.take i) + B ^ i * lval B (a.drop i) := by
    have := lval_append B (a.take i) (a.drop i)
    rwa [List.take_append_drop, List.length_take, Nat.min_eq_left (by omega)] at this
  have e2 : lval B b = lval B (b.take i) + B ^ i * lval B (b.drop i) := by
    have := lval_append B (b.take i) (b.drop i)
    rwa [List.take_append_drop, List.length_take, Nat.min_eq_left (by omega)] at this
  rw [e1, e2, lval_drop B a i hla, lval_drop B b i (by omega), he]
  have h1 := lval_lt (B := B) (by omega) (ha.take i)
  rw [List.length_take, Nat.min_eq_left (by omega)] at h1
  have h2 : B ^ i * (a.getD i 0 + 1 + B * lval B (b.drop (i + 1))) ≤ B ^ i * (b.getD i 0 + B * lval B (b.drop (i + 1))) := Nat.mul_le_mul_left _ (by omega)
  rw [Nat.mul_add, Nat.mul_add] at h2
  rw [Nat.mul_add]
  omega

/-! ### Numerals and limbs -/
def pad9 (b : Nat) : List UInt8 := List.replicate (9 - (decDigits b).length) 48 ++ decDigits b
theorem nval_replicate (k : Nat) : nval (List.replicate k 48) = 0 := by
  induction k with
  | zero => rfl
  | succ k ih =>
    rw [List.replicate_succ', nval_append, ih, nval_one]
    simp
theorem digs_replicate (k : Nat) : digs (List.replicate k 48) = true := by
  simp [digs, dig]
theorem nDigits_le_of_lt {k u : Nat} (hk : 1 ≤ k) (h : u < 10 ^ k) : nDigits u ≤ k := by
  induction u using Nat.strongRecOn generalizing k with
  | _ u ih =>
    by_cases h10 : u < 10
    · rw [nDigits_small h10]; exact hk
    · rw [nDigits_big h10]
      obtain ⟨m, rfl⟩ : ∃ m, k = m + 1 := ⟨k - 1, by omega⟩
      rw [Nat.pow_succ] at h
      by_cases hm : m = 0
      · subst hm; simp at h; omega
      · have := ih (u / 10) (by omega) (k := m) (by omega) (by omega)
        omega
theorem decDigits_length_le {k u : Nat} (hk : 1 ≤ k) (h : u < 10 ^ k) : (decDigits u).length ≤ k := by
  rw [decDigits_length]; exact nDigits_le_of_lt hk h
theorem pad9_length {b : Nat} (h : b < 1000000000) : (pad9 b).length = 9 := by
  have := decDigits_length_le (k := 9) (u := b) (by omega) (by simpa using h)
  simp [pad9]
  omega
theorem nval_pad9 (b : Nat) : nval (pad9 b) = b := by
  rw [pad9, nval_append, nval_replicate, nval_decDigits]; simp
theorem digs_pad9 (b : Nat) : digs (pad9 b) = true := digs_append.2 ⟨digs_replicate _, digs_decDigits b⟩
theorem decDigits_cat {a b : Nat} (ha : a ≠ 0) (hb : b < 1000000000) : decDigits (b + 1000000000 * a) = decDigits a ++ pad9 b := by
  obtain ⟨c, r, e, hc⟩ := decDigits_head ha
  have h := (decDigits_nval (decDigits a ++ pad9 b) (digs_append.2 ⟨digs_decDigits a, digs_pad9 b⟩) ⟨c, r ++ pad9 b, by rw [e]; rfl, hc⟩).1
  rw [nval_append, nval_decDigits, nval_pad9, pad9_length hb] at h
  rw [← h]
  congr 1
  omega
/-- the digits of a list of bytes, the last one first -/
def revDigs (l : List UInt8) : List Nat := l.reverse.map fun c => c.toNat - 48
theorem lval_revDigs (l : List UInt8) : lval 10 (revDigs l) = nval l := by
  induction l using snoc_ind with
  | nil => rfl
  | snoc l c ih =>
    rw [nval_append, nval_one, ← ih]
    simp only [revDigs, List.reverse_append, List.reverse_singleton, List.singleton_append, List.map_cons, lval, List.length_singleton, Nat.pow_one]
    omega
theorem small_revDigs {l : List UInt8} (h : digs l = true) : Small 10 (revDigs l) := by
  intro x hx
  simp only [revDigs, List.mem_map, List.mem_reverse] at hx
  obtain ⟨c, hc, rfl⟩ := hx
  have := List.all_eq_true.1 h c hc
  simp only [dig, Bool.and_eq_true, decide_eq_true_eq] at this
  omega
theorem revDigs_limbs {l : List UInt8} (h : digs l = true) (hh : ∃ c r, l = c :: r ∧ c.toNat ≠ 48) : revDigs l = limbs 10 (nval l) := by
  rw [← lval_revDigs l]
  refine limbs_unique (by omega) _ (small_revDigs h) fun hne => ?_
  obtain ⟨c, r, rfl, hc⟩ := hh
  have hd := List.all_eq_true.1 h c (by simp)
  simp only [dig, Bool.and_eq_true, decide_eq_true_eq] at hd
  simp [revDigs]
  omega
theorem limbs10_decDigits {n : Nat} (hn : n ≠ 0) : (limbs 10 n).reverse.map (fun d => UInt8.ofNat (48 + d)) = decDigits n := by
  induction n using Nat.strongRecOn with
  | _ n ih =>
    rw [limbs_step (by omega) hn, List.reverse_cons, List.map_append]
    by_cases h : n < 10
    · rw [decDigits_small h, Nat.div_eq_of_lt h, limbs_zero, Nat.mod_eq_of_lt h]; rfl
    · rw [decDigits_big h, ih (n / 10) (by omega) (by omega)]; rfl
/-- a round of parse: the last nine digits are cut off -/
theorem parse_round' {B : Nat} {D d e : List UInt8} {x : List Nat} (h : nval D = lval B x + B ^ x.length * nval (d ++ e)) (he : 10 ^ e.length = B ∨ d = []) :
    nval D = lval B (x ++ [nval e]) + B ^ (x.length + 1) * nval d := by
  rw [lval_snoc, h, nval_append, Nat.pow_succ]
  rcases he with he | rfl
  · rw [he, Nat.mul_add, Nat.mul_comm (nval d) B, ← Nat.mul_assoc]; omega
  · simp [nval_nil]
theorem parse_round {D d e : List UInt8} {x : List Nat} (h : nval D = lval 1000000000 x + 1000000000 ^ x.length * nval (d ++ e)) (he : e.length = 9 ∨ d = []) :
    nval D = lval 1000000000 (x ++ [nval e]) + 1000000000 ^ (x.length + 1) * nval d :=
  parse_round' h (he.imp (fun e => by rw [e]) id)
theorem mag_length_le (s : List UInt8) : (mag s).length ≤ s.length := by
  cases s with
  | nil => simp [mag]
  | cons c r => simp only [mag]; split <;> simp
theorem parseUintM_digs : ∀ (l : List UInt8) (M acc : Nat), digs l = true → acc * 10 ^ l.length + nval l ≤ M → M < 18446744073709551616 → parseUintM M acc l = .ok (acc * 10 ^ l.length + nval l)
  | [], M, acc, _, _, _ => by simp [parseUintM, nval]
  | c :: r, M, acc, h, hM, hlt => by
    have hc : dig c = true := by simp [digs] at h; exact h.1
    have hr : digs r = true := by simp [digs] at h ⊢; exact h.2
    simp only [dig, Bool.and_eq_true, decide_eq_true_eq] at hc
    have e : nval (c :: r) = (c.toNat - 48) * 10 ^ r.length + nval r := by
      have := nval_append [c] r
      rwa [nval_one] at this
    have e2 : acc * 10 ^ (c :: r).length + nval (c :: r) = (acc * 10 + (c.toNat - 48)) * 10 ^ r.length + nval r := by
      rw [e, List.length_cons, Nat.pow_succ]; grind
    have hp : 1 ≤ 10 ^ r.length := Nat.one_le_pow _ _ (by omega)
    have hle : acc * 10 + (c.toNat - 48) ≤ M := by
      have : (acc * 10 + (c.toNat - 48)) * 1 ≤ (acc * 10 + (c.toNat - 48)) * 10 ^ r.length := Nat.mul_le_mul_left _ hp
      omega
    rw [parseUintM, if_pos hc, if_neg (by omega), if_neg (by omega), parseUintM_digs r M _ hr (by omega) hlt, e2]
theorem parseUint32 {l : List UInt8} (h : digs l = true) (h0 : l ≠ []) (h9 : l.length ≤ 9) : parseUintB 32 l = .ok (nval l) := by
  have h1 := nval_lt l h
  have h2 : 10 ^ l.length ≤ 10 ^ 9 := Nat.pow_le_pow_right (by omega) h9
  rw [parseUintB, if_neg h0, parseUintM_digs l _ 0 h (by simp; omega) (by decide)]
  simp
theorem parseInt64_dec {s : List UInt8} (h : isDec s = true) (h18 : s.length ≤ 18) : parseIntB 64 s = .ok (dval s) := by
  by_cases h0 : s = [48]
  · subst h0; decide
  · obtain ⟨hd, hh⟩ := (isDec_iff h0).1 h
    have hne : mag s ≠ [] := by obtain ⟨c, r, e, _⟩ := hh; rw [e]; simp
    have hl : (mag s).length ≤ 18 := Nat.le_trans (mag_length_le s) h18
    have h1 := nval_lt _ hd
    have h2 : 10 ^ (mag s).length ≤ 10 ^ 18 := Nat.pow_le_pow_right (by omega) hl
    have hp : parseUintB 64 (mag s) = .ok (nval (mag s)) := by
      rw [parseUintB, if_neg hne, parseUintM_digs _ _ 0 hd (by simp; omega) (by decide)]; simp
    have hv : dval s = if neg s then -(nval (mag s) : Int) else nval (mag s) := by unfold dval; rw [if_pos h]
    cases s with
    | nil => simp [mag] at hne
    | cons c r =>
      have e45 : (c.toNat = 45) ↔ c = 45 := ⟨fun e => UInt8.toNat_inj.1 (by simpa using e), fun e => by subst e; rfl⟩
      by_cases hc : c = 45
      · subst hc
        rw [mag_cons45] at hp h1 h2
        rw [hv]
        simp only [parseIntB, neg_cons45, mag_cons45]
        rw [if_pos (Or.inr (by decide)), hp]
        simp only [if_true]
        rw [if_neg (by intro h; exact h.1 (by decide)), if_neg (by intro h; have := h.2; omega), if_pos (by decide)]
      · have hng : neg (c :: r) = false := by simp [neg, hc]
        have hm := mag_of_not hng
        rw [hm] at hp h1 h2 hd
        have hc43 : c.toNat ≠ 43 := by
          intro e
          have := List.all_eq_true.1 hd c (by simp)
          simp [dig, e] at this
        have hc45 : c.toNat ≠ 45 := fun e => hc (e45.1 e)
        rw [hv, hng, hm]
        simp only [parseIntB]
        rw [if_neg (by omega), hp]
        simp only [Bool.false_eq_true, if_false]
        rw [if_neg (by intro h; have := h.2; omega), if_neg (by intro h; exact hc45 h.1), if_neg hc45]
end Go.Proofs.YtcdgckbdplkdbaaDoor.Dec
