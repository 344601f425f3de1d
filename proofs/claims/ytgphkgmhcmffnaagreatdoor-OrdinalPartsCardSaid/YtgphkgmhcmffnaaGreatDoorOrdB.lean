/- Ordinals as plain trees: the sum is an ordinal, keeps the order on the left, is associative. -/
import Derived.Test.YtgphkgmhcmffnaaGreatDoorOrd
namespace Go.Proofs.YtgphkgmhcmffnaaGreatDoor
open Go.RowKit

namespace Tr
theorem add_inf (e c r b : Tr) : add (.cons (.cons e c) r) b = if b.isZ then .cons (.cons e c) r else if less e b.exp then b else if e = b.exp then .cons (.cons e (.num (c.val + b.coef.val))) b.rest else .cons (.cons e c) (add r b) := by rw [add]
theorem add_fin {a b : Tr} (h : a.inf = false) : add a b = if b.isZ then a else if b.inf then b else .num (a.val + b.val) := by
  unfold add
  split
  · cases h
  · rfl
theorem exp_fin {t : Tr} (h : t.inf = false) : t.exp = zero := by
  unfold exp
  split
  · cases h
  · rfl
theorem zero_nf : nf zero = true := rfl
theorem isZ_inf {t : Tr} (h : t.isZ = true) : t.inf = false := by rw [isZ_eq h]; rfl
theorem exp_nf {t : Tr} (h : nf t = true) : nf t.exp = true := by
  rcases fin_or t with f | ⟨e, c, r, rfl⟩
  · rw [exp_fin f]; exact zero_nf
  · exact (nf_parts h).he
theorem inf_exp {t : Tr} (h : nf t = true) (hi : t.inf = true) : t.exp.isZ = false := by
  obtain ⟨e, c, r, rfl⟩ := inf_iff.1 hi
  exact (nf_parts h).hez
/-- an exponent that is not 0 belongs to an infinite ordinal -/
theorem exp_pos {t : Tr} (h : t.exp.isZ = false) : t.inf = true := by
  cases hi : t.inf with
  | true => rfl
  | false => rw [exp_fin hi] at h; cases h
theorem exp_add (a b : Tr) : (add a b).exp = a.exp ∨ (add a b).exp = b.exp := by
  rcases fin_or a with f | ⟨e, c, r, rfl⟩
  · rw [add_fin f]
    split
    · exact .inl rfl
    · split
      · exact .inr rfl
      · left; rw [exp_fin f]; rfl
  · rw [add_inf]
    split
    · exact .inl rfl
    · split
      · exact .inr rfl
      · split
        · exact .inl rfl
        · exact .inl rfl
theorem isNat_num (n : Nat) : isNat (.num ((n : Int) : Rat)) = true := by
  show (decide (((n : Int) : Rat).den = 1) && decide (0 ≤ ((n : Int) : Rat).num)) = true
  rw [Rat.den_intCast, Rat.num_intCast]
  simp
theorem nat_add {a b : Tr} (ha : a.isNat = true) (hb : b.isNat = true) : isNat (.num (a.val + b.val)) = true := by
  obtain ⟨_, n, rfl⟩ := isNat_fin ha
  obtain ⟨_, m, rfl⟩ := isNat_fin hb
  have e : (Tr.num ((n : Int) : Rat)).val + (Tr.num ((m : Int) : Rat)).val = (((n + m : Nat) : Int) : Rat) := by
    show ((n : Int) : Rat) + ((m : Int) : Rat) = _
    rw [← Rat.intCast_add]
    rfl
  rw [e]
  exact isNat_num _
theorem nat_pos {a : Tr} (ha : a.isNat = true) (hz : a.isZ = false) : 0 < a.val := by
  obtain ⟨_, n, rfl⟩ := isNat_fin ha
  rw [isZ_num] at hz
  have hn : (n : Int) ≠ 0 := of_decide_eq_false hz
  exact Rat.intCast_lt_intCast.2 (by omega : (0 : Int) < n)
theorem nat_nonneg {a : Tr} (ha : a.isNat = true) : 0 ≤ a.val := by
  obtain ⟨_, n, rfl⟩ := isNat_fin ha
  exact Rat.intCast_le_intCast.2 (by omega : (0 : Int) ≤ n)
theorem isZ_of_pos {q : Rat} (h : 0 < q) : isZ (.num q) = false := by
  show decide (q.num = 0) = false
  rw [decide_eq_false_iff_not]
  intro e
  rw [Rat.num_eq_zero.1 e] at h
  exact Rat.lt_irrefl h
theorem nf_cons {e c r : Tr} (h : Nf e c r) : nf (.cons (.cons e c) r) = true := by
  rw [nf_inf]
  simp only [h.he, h.hez, h.hc, h.hcz, h.hr, h.hlt, Bool.not_false, Bool.and_self]
/-- the three ways in which two exponents lie -/
theorem exp_tri {a b : Tr} (ha : nf a = true) (hb : nf b = true) : (less a.exp b.exp = true) ∨ a.exp = b.exp ∨ (less b.exp a.exp = true) := less_tri _ _ (exp_nf ha) (exp_nf hb)
theorem nf_add : ∀ a b : Tr, nf a = true → nf b = true → nf (add a b) = true := by
  intro a
  induction a using sizeInd with
  | step a ih =>
    intro b ha hb
    rcases fin_or a with f | ⟨e, c, r, rfl⟩
    · rw [add_fin f]
      split
      · exact ha
      · split
        · exact hb
        · rename_i hi
          have fb : b.inf = false := by simpa using hi
          rw [nf_fin f] at ha
          rw [nf_fin fb] at hb
          exact nat_add ha hb
    · have p := nf_parts ha
      rw [add_inf]
      split
      · exact ha
      · split
        · exact hb
        · rename_i h1
          split
          · rename_i h2
            have hbi : b.inf = true := exp_pos (by rw [← h2]; exact p.hez)
            obtain ⟨e', c', r', rfl⟩ := inf_iff.1 hbi
            have p' := nf_parts hb
            obtain rfl : e = e' := h2
            exact nf_cons ⟨p.he, p.hez, nat_add p.hc p'.hc, isZ_of_pos (by have h3 := nat_pos p.hc p.hcz; have h4 := nat_pos p'.hc p'.hcz; show 0 < c.val + c'.val; grind), p'.hr, p'.hlt⟩
          · rename_i h2
            have h3 : less b.exp e = true := by
              rcases less_tri e b.exp p.he (exp_nf hb) with h | h | h
              · exact absurd h h1
              · exact absurd h h2
              · exact h
            refine nf_cons ⟨p.he, p.hez, p.hc, p.hcz, ih r (size_e e c r).2.2 b p.hr hb, ?_⟩
            rcases exp_add r b with h | h
            · rw [h]; exact p.hlt
            · rw [h]; exact h3
theorem add_zero (a : Tr) : add a zero = a := by
  rcases fin_or a with f | ⟨e, c, r, rfl⟩
  · rw [add_fin f, if_pos (show zero.isZ = true from rfl)]
  · rw [add_inf, if_pos (show zero.isZ = true from rfl)]
theorem less_zero {a : Tr} (h : nf a = true) : less a zero = false := by
  rcases fin_or a with f | ⟨e, c, r, rfl⟩
  · rw [less_fin (.inl f), f]
    rw [nf_fin f] at h
    have := nat_nonneg h
    show decide (a.val < 0) = false
    rw [decide_eq_false_iff_not]
    grind
  · rfl
theorem zero_of {a : Tr} (h : nf a = true) (h2 : less zero a = false) : a.isZ = true := by
  cases hz : a.isZ with
  | true => rfl
  | false => rw [zero_less h hz] at h2; cases h2
theorem not_less {a b : Tr} (ha : nf a = true) (hb : nf b = true) (h : less b a = true) : less a b = false := less_asymm hb ha h
theorem ne_of_less {a b : Tr} (h : less a b = true) : a ≠ b := fun e => by
  subst e
  rw [less_irrefl] at h
  cases h
theorem add1 {e c r b : Tr} (hz : b.isZ = false) (h : less e b.exp = true) : add (.cons (.cons e c) r) b = b := by
  rw [add_inf, if_neg (by rw [hz]; simp), if_pos h]
theorem add2 {e c r b : Tr} (hz : b.isZ = false) (h : e = b.exp) : add (.cons (.cons e c) r) b = .cons (.cons e (.num (c.val + b.coef.val))) b.rest := by
  rw [add_inf, if_neg (by rw [hz]; simp), if_neg (by rw [← h, less_irrefl]; simp), if_pos h]
theorem add3 {e c r b : Tr} (hz : b.isZ = false) (he : nf e = true) (hb : nf b = true) (h : less b.exp e = true) : add (.cons (.cons e c) r) b = .cons (.cons e c) (add r b) := by
  rw [add_inf, if_neg (by rw [hz]; simp), if_neg (by rw [not_less he (exp_nf hb) h]; simp), if_neg (fun x => ne_of_less h x.symm)]
theorem exp_le {b c : Tr} (hc : nf c = true) (h : less b c = true) : b.exp = c.exp ∨ less b.exp c.exp = true := by
  rcases fin_or b with fb | ⟨e, k, r, rfl⟩
  · rw [exp_fin fb]
    rcases fin_or c with fc | ⟨e', k', r', rfl⟩
    · rw [exp_fin fc]; exact .inl rfl
    · exact .inr (zero_less (nf_parts hc).he (nf_parts hc).hez)
  · rcases fin_or c with fc | ⟨e', k', r', rfl⟩
    · rw [less_fin (.inr fc), fc] at h
      cases h
    · rw [less_inf] at h
      by_cases he : e = e'
      · exact .inl he
      · rw [if_neg he] at h; exact .inr h
theorem nz_of_less {b c : Tr} (hb : nf b = true) (h : less b c = true) : c.isZ = false := by
  cases hz : c.isZ with
  | false => rfl
  | true =>
    rw [isZ_eq hz, less_zero hb] at h
    cases h
theorem less_of_exp {a b : Tr} (hb : b.inf = true) (h : less a.exp b.exp = true) : less a b = true := by
  obtain ⟨e', k', r', rfl⟩ := inf_iff.1 hb
  rcases fin_or a with fa | ⟨e, k, r, rfl⟩
  · rw [less_fin (.inl fa), fa]; rfl
  · replace h : less e e' = true := h
    rw [less_inf, if_neg (ne_of_less h)]
    exact h
/-- the sum keeps the order on the left -/
theorem add_less : ∀ a b c : Tr, nf a = true → nf b = true → nf c = true → less b c = true → less (add a b) (add a c) = true := by
  intro a
  induction a using sizeInd with
  | step a ih =>
    intro b c ha hb hc h
    have hcz := nz_of_less hb h
    have hcz' : ¬ c.isZ = true := by rw [hcz]; simp
    rcases fin_or a with fa | ⟨e, k, r, rfl⟩
    · rcases fin_or c with fc | hci
      · have e1 : add a c = .num (a.val + c.val) := by rw [add_fin fa, if_neg hcz', if_neg (by rw [fc]; simp)]
        have fb : b.inf = false := by
          rw [less_fin (.inr fc), fc] at h
          cases hbi : b.inf with
          | false => rfl
          | true => rw [hbi] at h; simp at h
        rw [less_fin (.inl fb), fb, fc] at h
        have h' : b.val < c.val := of_decide_eq_true h
        rw [nf_fin fb] at hb
        have h3 := nat_nonneg hb
        rw [e1]
        cases hbz : b.isZ with
        | true =>
          rw [isZ_eq hbz, add_zero, less_fin (.inl fa), fa]
          show decide (a.val < a.val + c.val) = true
          rw [decide_eq_true_eq]
          grind
        | false =>
          rw [add_fin fa, if_neg (by rw [hbz]; simp), if_neg (by rw [fb]; simp)]
          show decide (a.val + b.val < a.val + c.val) = true
          rw [decide_eq_true_eq]
          grind
      · have hci' : c.inf = true := inf_iff.2 hci
        have e1 : add a c = c := by rw [add_fin fa, if_neg hcz', if_pos hci']
        rw [e1, add_fin fa]
        split
        · rw [less_fin (.inl fa), fa, hci']; rfl
        · split
          · exact h
          · rw [less_fin (.inl rfl), hci']; simp
    · have p := nf_parts ha
      have hs := size_e e k r
      have kpos := nat_pos p.hc p.hcz
      rcases less_tri e c.exp p.he (exp_nf hc) with t | t | t
      · -- c outweighs a
        have hci : c.inf = true := by
          refine exp_pos ?_
          exact nz_of_less p.he t
        rw [add1 hcz t]
        cases hbz : b.isZ with
        | true =>
          rw [isZ_eq hbz, add_zero]
          exact less_of_exp hci t
        | false =>
          rcases less_tri e b.exp p.he (exp_nf hb) with u | u | u
          · rw [add1 hbz u]; exact h
          · rw [add2 hbz u]
            exact less_of_exp hci t
          · rw [add3 hbz p.he hb u]
            exact less_of_exp hci t
      · -- the same exponent
        have hci : c.inf = true := exp_pos (by rw [← t]; exact p.hez)
        obtain ⟨e', k', r', rfl⟩ := inf_iff.1 hci
        obtain rfl : e = e' := t
        have p' := nf_parts hc
        have kpos' := nat_pos p'.hc p'.hcz
        rw [add2 hcz (show e = (Tr.cons (.cons e k') r').exp from rfl)]
        have coefLess : ∀ x y : Tr, less (.cons (.cons e k) x) (.cons (.cons e (.num (k.val + k'.val))) y) = true := fun x y => by
          have hk : k ≠ .num (k.val + k'.val) := fun e2 => by
            have e3 : k.val = k.val + k'.val := congrArg Tr.val e2
            grind
          rw [less_inf, if_pos rfl, if_neg hk]
          show decide (k.val < k.val + k'.val) = true
          rw [decide_eq_true_eq]
          grind
        cases hbz : b.isZ with
        | true =>
          rw [isZ_eq hbz, add_zero]
          exact coefLess _ _
        | false =>
          rcases less_tri e b.exp p.he (exp_nf hb) with u | u | u
          · exfalso
            rcases exp_le hc h with v | v
            · rw [v] at u; exact ne_of_less u rfl
            · have := less_asymm p.he (exp_nf hb) u
              rw [show less b.exp e = true from v] at this
              cases this
          · have hbi : b.inf = true := exp_pos (by rw [← u]; exact p.hez)
            obtain ⟨e2, k2, r2, rfl⟩ := inf_iff.1 hbi
            obtain rfl : e = e2 := u
            rw [add2 hbz (show e = (Tr.cons (.cons e k2) r2).exp from rfl)]
            rw [less_inf, if_pos rfl] at h
            show less (.cons (.cons e (.num (k.val + k2.val))) r2) (.cons (.cons e (.num (k.val + k'.val))) r') = true
            rw [less_inf, if_pos rfl]
            have p2 := nf_parts hb
            by_cases hk : k2 = k'
            · subst hk
              rw [if_pos rfl] at h ⊢
              exact h
            · rw [if_neg hk] at h
              have h' : k2.val < k'.val := of_decide_eq_true h
              have hk2 : Tr.num (k.val + k2.val) ≠ .num (k.val + k'.val) := fun e3 => by
                injection e3 with e3
                grind
              rw [if_neg hk2]
              show decide (k.val + k2.val < k.val + k'.val) = true
              rw [decide_eq_true_eq]
              grind
          · rw [add3 hbz p.he hb u]
            exact coefLess _ _
      · -- a outweighs c
        rw [add3 hcz p.he hc t]
        have tail : ∀ x : Tr, less x (add r c) = true → less (.cons (.cons e k) x) (.cons (.cons e k) (add r c)) = true := fun x hx => by
          rw [less_inf, if_pos rfl, if_pos rfl]; exact hx
        cases hbz : b.isZ with
        | true =>
          rw [isZ_eq hbz, add_zero]
          refine tail r ?_
          have := ih r hs.2.2 zero c p.hr zero_nf hc (zero_less hc hcz)
          rwa [add_zero] at this
        | false =>
          have u : less b.exp e = true := by
            rcases exp_le hc h with v | v
            · rw [v]; exact t
            · exact less_trans _ _ _ (exp_nf hb) (exp_nf hc) p.he v t
          rw [add3 hbz p.he hb u]
          exact tail _ (ih r hs.2.2 b c p.hr hb hc h)
end Tr
end Go.Proofs.YtgphkgmhcmffnaaGreatDoor
