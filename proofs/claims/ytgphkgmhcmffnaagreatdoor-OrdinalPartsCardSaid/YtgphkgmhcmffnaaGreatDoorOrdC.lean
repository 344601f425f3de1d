/- Ordinals as plain trees: the sum is associative; the product is an ordinal, distributes over the sum and is associative. -/
import Derived.Test.YtgphkgmhcmffnaaGreatDoorOrdB
namespace Go.Proofs.YtgphkgmhcmffnaaGreatDoor
open Go.RowKit

namespace Tr
theorem exp_add' {a b : Tr} (hb : nf b = true) : (add a b).exp = a.exp ∨ ((add a b).exp = b.exp ∧ less a.exp b.exp = true) := by
  rcases fin_or a with f | ⟨e, c, r, rfl⟩
  · rw [add_fin f]
    split
    · exact .inl rfl
    · split
      · rename_i hi
        refine .inr ⟨rfl, ?_⟩
        rw [exp_fin f]
        exact zero_less (exp_nf hb) (inf_exp hb hi)
      · left; rw [exp_fin f]; rfl
  · rw [add_inf]
    split
    · exact .inl rfl
    · split
      · rename_i h
        exact .inr ⟨rfl, h⟩
      · split
        · exact .inl rfl
        · exact .inl rfl
theorem add_big {a b : Tr} (ha : nf a = true) (h : less a.exp b.exp = true) : add a b = b := by
  have hbz : b.exp.isZ = false := nz_of_less (exp_nf ha) h
  have hbi := exp_pos hbz
  have hz : b.isZ = false := by
    cases hz : b.isZ with
    | false => rfl
    | true => rw [isZ_inf hz] at hbi; cases hbi
  rcases fin_or a with f | ⟨e, c, r, rfl⟩
  · rw [add_fin f, if_neg (by rw [hz]; simp), if_pos hbi]
  · exact add1 hz h
theorem inf_nz {a : Tr} (h : a.inf = true) : a.isZ = false := by
  cases hz : a.isZ with
  | false => rfl
  | true => rw [isZ_inf hz] at h; cases h
theorem add_nz {a b : Tr} (ha : nf a = true) (hb : nf b = true) (hz : b.isZ = false) : (add a b).isZ = false := by
  have h := add_less a zero b ha zero_nf hb (zero_less hb hz)
  rw [add_zero] at h
  exact nz_of_less ha h
theorem zero_add {a : Tr} (ha : nf a = true) : add zero a = a := by
  rw [add_fin rfl]
  split
  · rename_i h; exact (isZ_eq h).symm
  · split
    · rfl
    · rename_i h
      have f : a.inf = false := by simpa using h
      obtain ⟨n, rfl⟩ := fin_nat ha f
      show Tr.num (0 + ((n : Int) : Rat)) = _
      rw [Rat.zero_add]
theorem add_ff {a b : Tr} (fa : a.inf = false) (fb : b.inf = false) (hz : b.isZ = false) : add a b = .num (a.val + b.val) := by
  rw [add_fin fa, if_neg (by rw [hz]; simp), if_neg (by rw [fb]; simp)]
theorem add_inf' {a b : Tr} (ha : nf a = true) (hi : a.inf = true) (hb : nf b = true) : (add a b).inf = true := by
  refine exp_pos ?_
  rcases exp_add' (a := a) hb with h | ⟨h, h2⟩
  · rw [h]; exact inf_exp ha hi
  · rw [h]; exact nz_of_less (exp_nf ha) h2
theorem w_eq {t : Tr} (h : t.inf = true) : t = .cons (.cons t.exp t.coef) t.rest := by
  obtain ⟨e, c, r, rfl⟩ := inf_iff.1 h
  rfl
theorem add_assoc : ∀ a b c : Tr, nf a = true → nf b = true → nf c = true → add (add a b) c = add a (add b c) := by
  intro a
  induction a using sizeInd with
  | step a ih =>
    intro b c ha hb hc
    cases hcz : c.isZ with
    | true => rw [isZ_eq hcz, add_zero, add_zero]
    | false =>
    cases hbz : b.isZ with
    | true => rw [isZ_eq hbz, add_zero, zero_add hc]
    | false =>
    have hbc := nf_add b c hb hc
    have hbcz := add_nz hb hc hcz
    rcases fin_or a with fa | ⟨e, k, r, rfl⟩
    · rcases fin_or b with fb | hbi
      · rcases fin_or c with fc | hci
        · have s1 : add a b = .num (a.val + b.val) := add_ff fa fb hbz
          have s2 : add b c = .num (b.val + c.val) := add_ff fb fc hcz
          rw [s1, s2, add_ff rfl fc hcz, add_ff fa rfl (by rw [← s2]; exact hbcz)]
          show Tr.num (a.val + b.val + c.val) = .num (a.val + (b.val + c.val))
          rw [Rat.add_assoc]
        · have hci' := inf_iff.2 hci
          have s1 : add a b = .num (a.val + b.val) := add_ff fa fb hbz
          have s3 : ∀ x : Tr, x.inf = false → add x c = c := fun x hx => by rw [add_fin hx, if_neg (by rw [hcz]; simp), if_pos hci']
          rw [s1, s3 _ rfl, s3 b fb, s3 a fa]
      · have hbi' := inf_iff.2 hbi
        have s3 : ∀ x : Tr, x.inf = true → add a x = x := fun x hx => by rw [add_fin fa, if_neg (by rw [inf_nz hx]; simp), if_pos hx]
        rw [s3 b hbi', s3 _ (add_inf' hb hbi' hc)]
    · have p := nf_parts ha
      have hs := size_e e k r
      rcases less_tri e b.exp p.he (exp_nf hb) with t | t | t
      · rw [add1 hbz t]
        have h2 : less e (add b c).exp = true := by
          rcases exp_add' (a := b) hc with h | ⟨h, h3⟩
          · rw [h]; exact t
          · rw [h]; exact less_trans _ _ _ p.he (exp_nf hb) (exp_nf hc) t h3
        rw [add1 hbcz h2]
      · have hbi : b.inf = true := exp_pos (by rw [← t]; exact p.hez)
        obtain ⟨e', kb, rb, rfl⟩ := inf_iff.1 hbi
        obtain rfl : e = e' := t
        have q := nf_parts hb
        have s1 : ∀ (x y : Tr), add (.cons (.cons e k) r) (.cons (.cons e x) y) = .cons (.cons e (.num (k.val + x.val))) y := fun x y => add2 rfl rfl
        rw [s1]
        rcases less_tri e c.exp p.he (exp_nf hc) with u | u | u
        · rw [add1 hcz u, add1 hcz u, add1 hcz u]
        · have hci : c.inf = true := exp_pos (by rw [← u]; exact p.hez)
          obtain ⟨e2, kc, rc, rfl⟩ := inf_iff.1 hci
          obtain rfl : e = e2 := u
          have s2 : ∀ (x z y v : Tr), add (.cons (.cons e x) z) (.cons (.cons e y) v) = .cons (.cons e (.num (x.val + y.val))) v := fun x z y v => add2 rfl rfl
          rw [s2, s2, s2]
          show Tr.cons (.cons e (.num (k.val + kb.val + kc.val))) rc = .cons (.cons e (.num (k.val + (kb.val + kc.val)))) rc
          rw [Rat.add_assoc]
        · rw [add3 hcz p.he hc u, add3 hcz p.he hc u, s1]
      · rw [add3 hbz p.he hb t]
        rcases less_tri e c.exp p.he (exp_nf hc) with u | u | u
        · rw [add1 hcz u, add_big hb (less_trans _ _ _ (exp_nf hb) p.he (exp_nf hc) t u), add1 hcz u]
        · have hbig : add b c = c := add_big hb (by rw [← u]; exact t)
          rw [hbig]
          have hci : c.inf = true := exp_pos (by rw [← u]; exact p.hez)
          obtain ⟨e2, kc, rc, rfl⟩ := inf_iff.1 hci
          obtain rfl : e = e2 := u
          have s2 : ∀ (x z y v : Tr), add (.cons (.cons e x) z) (.cons (.cons e y) v) = .cons (.cons e (.num (x.val + y.val))) v := fun x z y v => add2 rfl rfl
          rw [s2, s2]
        · rw [add3 hcz p.he hc u]
          have h2 : less (add b c).exp e = true := by
            rcases exp_add b c with h | h
            · rw [h]; exact t
            · rw [h]; exact u
          rw [add3 hbcz p.he hbc h2, ih r hs.2.2 b c p.hr hb hc]
/-! ### the product -/
theorem mul_inf (a e c r : Tr) : mul a (.cons (.cons e c) r) = if a.isZ then zero else .cons (.cons (add a.exp e) c) (mul a r) := by rw [mul]
theorem mul_fin {a b : Tr} (h : b.inf = false) : mul a b = if a.isZ || b.isZ then zero else if a.inf then .cons (.cons a.exp (.num (a.coef.val * b.val))) a.rest else .num (a.val * b.val) := by
  unfold mul
  split
  · cases h
  · rfl
theorem mul_f {a b : Tr} (fb : b.inf = false) (hz : a.isZ = false) (hbz : b.isZ = false) : mul a b = if a.inf then .cons (.cons a.exp (.num (a.coef.val * b.val))) a.rest else .num (a.val * b.val) := by
  rw [mul_fin fb, if_neg (by rw [hz, hbz]; simp)]
theorem mul_zero (a : Tr) : mul a zero = zero := by
  rw [mul_fin rfl, if_pos (by show (a.isZ || true) = true; simp)]
theorem zero_mul (b : Tr) : mul zero b = zero := by
  rcases fin_or b with f | ⟨e, c, r, rfl⟩
  · rw [mul_fin f, if_pos (by show (true || b.isZ) = true; simp)]
  · rw [mul_inf, if_pos (show zero.isZ = true from rfl)]
theorem nat_mul {a b : Tr} (ha : a.isNat = true) (hb : b.isNat = true) : isNat (.num (a.val * b.val)) = true := by
  obtain ⟨_, n, rfl⟩ := isNat_fin ha
  obtain ⟨_, m, rfl⟩ := isNat_fin hb
  have e : (Tr.num ((n : Int) : Rat)).val * (Tr.num ((m : Int) : Rat)).val = (((n * m : Nat) : Int) : Rat) := by
    show ((n : Int) : Rat) * ((m : Int) : Rat) = _
    rw [← Rat.intCast_mul, Int.natCast_mul]
  rw [e]
  exact isNat_num _
theorem exp_mul {a b : Tr} (_ : nf a = true) (hz : a.isZ = false) (_ : nf b = true) (hbz : b.isZ = false) : (mul a b).exp = add a.exp b.exp := by
  rcases fin_or b with f | ⟨e, c, r, rfl⟩
  · rw [mul_fin f, exp_fin f, add_zero, if_neg (by rw [hz, hbz]; simp)]
    split
    · rfl
    · rename_i h
      have fa : a.inf = false := by simpa using h
      rw [exp_fin fa]; rfl
  · rw [mul_inf, if_neg (by rw [hz]; simp)]
    rfl
theorem mul_nz {a b : Tr} (ha : nf a = true) (hz : a.isZ = false) (hb : nf b = true) (hbz : b.isZ = false) : (mul a b).isZ = false := by
  rcases fin_or b with f | ⟨e, c, r, rfl⟩
  · rw [mul_fin f, if_neg (by rw [hz, hbz]; simp)]
    split
    · rfl
    · rename_i h
      have fa : a.inf = false := by simpa using h
      rw [nf_fin fa] at ha
      rw [nf_fin f] at hb
      exact isZ_of_pos (Rat.mul_pos (nat_pos ha hz) (nat_pos hb hbz))
  · rw [mul_inf, if_neg (by rw [hz]; simp)]
    rfl
theorem nf_mul {a : Tr} (ha : nf a = true) : ∀ b : Tr, nf b = true → nf (mul a b) = true := by
  intro b
  induction b using sizeInd with
  | step b ih =>
    intro hb
    cases hz : a.isZ with
    | true => rw [isZ_eq hz, zero_mul]; exact zero_nf
    | false =>
    cases hbz : b.isZ with
    | true => rw [isZ_eq hbz, mul_zero]; exact zero_nf
    | false =>
    rcases fin_or b with f | ⟨e, c, r, rfl⟩
    · rw [mul_fin f, if_neg (by rw [hz, hbz]; simp)]
      rw [nf_fin f] at hb
      split
      · rename_i hi
        obtain ⟨ea, ka, ra, rfl⟩ := inf_iff.1 hi
        have p := nf_parts ha
        exact nf_cons ⟨p.he, p.hez, nat_mul p.hc hb, isZ_of_pos (Rat.mul_pos (nat_pos p.hc p.hcz) (nat_pos hb hbz)), p.hr, p.hlt⟩
      · rename_i h
        have fa : a.inf = false := by simpa using h
        rw [nf_fin fa] at ha
        exact nat_mul ha hb
    · have p := nf_parts hb
      have hs := size_e e c r
      rw [mul_inf, if_neg (by rw [hz]; simp)]
      have hea := exp_nf ha
      refine nf_cons ⟨nf_add _ _ hea p.he, add_nz hea p.he p.hez, p.hc, p.hcz, ih r hs.2.2 p.hr, ?_⟩
      cases hrz : r.isZ with
      | true =>
        rw [isZ_eq hrz, mul_zero]
        exact zero_less (nf_add _ _ hea p.he) (add_nz hea p.he p.hez)
      | false =>
        rw [exp_mul ha hz p.hr hrz]
        exact add_less _ _ _ hea (exp_nf p.hr) p.he p.hlt
theorem less_add {a b : Tr} (ha : nf a = true) (hb : nf b = true) (hz : b.isZ = false) : less a (add a b) = true := by
  have h := add_less a zero b ha zero_nf hb (zero_less hb hz)
  rwa [add_zero] at h
theorem mul_add {a : Tr} (ha : nf a = true) : ∀ b c : Tr, nf b = true → nf c = true → mul a (add b c) = add (mul a b) (mul a c) := by
  intro b
  induction b using sizeInd with
  | step b ih =>
    intro c hb hc
    cases hz : a.isZ with
    | true => rw [isZ_eq hz, zero_mul, zero_mul, zero_mul, add_zero]
    | false =>
    cases hcz : c.isZ with
    | true => rw [isZ_eq hcz, add_zero, mul_zero, add_zero]
    | false =>
    cases hbz : b.isZ with
    | true => rw [isZ_eq hbz, zero_add hc, mul_zero, zero_add (nf_mul ha c hc)]
    | false =>
    have hea := exp_nf ha
    have hmc := nf_mul ha c hc
    have hmb := nf_mul ha b hb
    have hmcz := mul_nz ha hz hc hcz
    rcases fin_or b with fb | ⟨eb, kb, rb, rfl⟩
    · rcases fin_or c with fc | hci
      · have s1 : add b c = .num (b.val + c.val) := add_ff fb fc hcz
        have hbcz : (Tr.num (b.val + c.val)).isZ = false := by rw [← s1]; exact add_nz hb hc hcz
        rw [s1]
        rw [mul_f (a := a) (b := .num (b.val + c.val)) rfl hz hbcz, mul_f fb hz hbz, mul_f fc hz hcz]
        cases hai : a.inf with
        | true =>
          simp only [if_true]
          have s2 : ∀ (e x z y v : Tr), add (.cons (.cons e x) z) (.cons (.cons e y) v) = .cons (.cons e (.num (x.val + y.val))) v := fun e x z y v => add2 rfl rfl
          rw [s2]
          show Tr.cons (.cons a.exp (.num (a.coef.val * (b.val + c.val)))) a.rest = .cons (.cons a.exp (.num (a.coef.val * b.val + a.coef.val * c.val))) a.rest
          rw [Rat.mul_add]
        | false =>
          simp only [Bool.false_eq_true, if_false]
          have hcz2 : (Tr.num (a.val * c.val)).isZ = false := by
            rw [mul_fin fc, if_neg (by rw [hz, hcz]; simp), if_neg (by rw [hai]; simp)] at hmcz
            exact hmcz
          rw [add_ff rfl rfl hcz2]
          show Tr.num (a.val * (b.val + c.val)) = .num (a.val * b.val + a.val * c.val)
          rw [Rat.mul_add]
      · have hci' := inf_iff.2 hci
        have s1 : add b c = c := by rw [add_fin fb, if_neg (by rw [hcz]; simp), if_pos hci']
        rw [s1]
        refine (add_big hmb ?_).symm
        rw [exp_mul ha hz hb hbz, exp_mul ha hz hc hcz, exp_fin fb, add_zero]
        exact less_add hea (exp_nf hc) (inf_exp hc hci')
    · have p := nf_parts hb
      have hs := size_e eb kb rb
      have hmb' : mul a (.cons (.cons eb kb) rb) = .cons (.cons (add a.exp eb) kb) (mul a rb) := by rw [mul_inf, if_neg (by rw [hz]; simp)]
      have hE := nf_add _ _ hea p.he
      rcases less_tri eb c.exp p.he (exp_nf hc) with t | t | t
      · rw [add1 hcz t]
        refine (add_big hmb ?_).symm
        rw [exp_mul ha hz hb hbz, exp_mul ha hz hc hcz]
        exact add_less _ _ _ hea p.he (exp_nf hc) t
      · have hci : c.inf = true := exp_pos (by rw [← t]; exact p.hez)
        obtain ⟨e2, kc, rc, rfl⟩ := inf_iff.1 hci
        obtain rfl : eb = e2 := t
        have s2 : ∀ (e x z y v : Tr), add (.cons (.cons e x) z) (.cons (.cons e y) v) = .cons (.cons e (.num (x.val + y.val))) v := fun e x z y v => add2 rfl rfl
        rw [s2, mul_inf, mul_inf, mul_inf, if_neg (by rw [hz]; simp), if_neg (by rw [hz]; simp), if_neg (by rw [hz]; simp), s2]
      · rw [add3 hcz p.he hc t, mul_inf, if_neg (by rw [hz]; simp), hmb', ih rb hs.2.2 c p.hr hc]
        refine (add3 hmcz hE hmc ?_).symm
        rw [exp_mul ha hz hc hcz]
        exact add_less _ _ _ hea (exp_nf hc) p.he t
theorem mul_assoc {a b : Tr} (ha : nf a = true) (hb : nf b = true) : ∀ c : Tr, nf c = true → mul (mul a b) c = mul a (mul b c) := by
  intro c
  induction c using sizeInd with
  | step c ih =>
    intro hc
    cases hz : a.isZ with
    | true => rw [isZ_eq hz, zero_mul, zero_mul, zero_mul]
    | false =>
    cases hbz : b.isZ with
    | true => rw [isZ_eq hbz, mul_zero, zero_mul, mul_zero]
    | false =>
    cases hcz : c.isZ with
    | true => rw [isZ_eq hcz, mul_zero, mul_zero, mul_zero]
    | false =>
    have hm := mul_nz ha hz hb hbz
    rcases fin_or c with fc | ⟨ec, kc, rc, rfl⟩
    · rcases fin_or b with fb | ⟨eb, kb, rb, rfl⟩
      · have hbc : mul b c = .num (b.val * c.val) := by rw [mul_fin fc, if_neg (by rw [hbz, hcz]; simp), if_neg (by rw [fb]; simp)]
        have hbcz : (Tr.num (b.val * c.val)).isZ = false := by rw [← hbc]; exact mul_nz hb hbz hc hcz
        rw [mul_f (a := mul a b) fc hm hcz, hbc, mul_f (a := a) (b := .num (b.val * c.val)) rfl hz hbcz, mul_f fb hz hbz]
        cases hai : a.inf with
        | true =>
          simp only [if_true]
          show Tr.cons (.cons a.exp (.num (a.coef.val * b.val * c.val))) a.rest = .cons (.cons a.exp (.num (a.coef.val * (b.val * c.val)))) a.rest
          rw [Rat.mul_assoc]
        | false =>
          simp only [Bool.false_eq_true, if_false]
          show Tr.num (a.val * b.val * c.val) = .num (a.val * (b.val * c.val))
          rw [Rat.mul_assoc]
      · have hbc : mul (.cons (.cons eb kb) rb) c = .cons (.cons eb (.num (kb.val * c.val))) rb := by rw [mul_f fc hbz hcz]; rfl
        have m1 : ∀ x : Tr, mul a (.cons (.cons eb x) rb) = .cons (.cons (add a.exp eb) x) (mul a rb) := fun x => by rw [mul_inf, if_neg (by rw [hz]; simp)]
        rw [hbc, m1, m1, mul_f fc rfl hcz]
        rfl
    · have p := nf_parts hc
      have hs := size_e ec kc rc
      rw [mul_inf, if_neg (by rw [hm]; simp), mul_inf, if_neg (by rw [hbz]; simp), mul_inf, if_neg (by rw [hz]; simp), exp_mul ha hz hb hbz, ih rc hs.2.2 p.hr, add_assoc _ _ _ (exp_nf ha) (exp_nf hb) p.he]
end Tr
end Go.Proofs.YtgphkgmhcmffnaaGreatDoor
