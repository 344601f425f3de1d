/- Valid trees; ordinals within the limits; the sums and products that are kept. -/
import Derived.Test.YtgphkgmhcmffnaaGreatDoorOrdC
import Derived.Test.YtgphkgmhcmffnaaGreatDoorFmr
namespace Go.Proofs.YtgphkgmhcmffnaaGreatDoor
open Go.RowKit

namespace Tr
/-- every part within the limits -/
def good : Tr → Bool
  | .num q => decide (dg (Lib.itoa q.num) ≤ 100 ∧ dg (Lib.itoa (q.den : Int)) ≤ 100)
  | .txt t => decide (t.length ≤ 200)
  | .sym p s => symOk ⟨p, s⟩
  | .cons a d => good a && good d
theorem formB_ob : ∀ t : Tr, t.ob.formB = t.good
  | .num q => by
    show Ob.formB ⟨1, Lib.itoa q.num, Lib.itoa (q.den : Int), [], [], [], []⟩ = _
    rw [Ob.formB_eq]
    have h1 : rdN q.num (q.den : Int) = q.num := by rw [(rd_rat _ _).1, Rat.num_divInt_den]
    have h2 : rdD q.num (q.den : Int) = (q.den : Int) := by rw [(rd_rat _ _).2, Rat.num_divInt_den]
    have h3 : lowB (Lib.itoa q.num) (Lib.itoa (q.den : Int)) = decide (dg (Lib.itoa q.num) ≤ 100 ∧ dg (Lib.itoa (q.den : Int)) ≤ 100) := by
      unfold lowB
      rw [Dec.dval_itoa, Dec.dval_itoa, h1, h2]
      exact decide_eq_decide.2 ⟨fun h => ⟨h.2.2.1, h.2.2.2⟩, fun h => ⟨rfl, rfl, h.1, h.2⟩⟩
    rw [h3]
    simp [good]
  | .txt t => by
    show Ob.formB ⟨3, [], [], [], [], t, []⟩ = _
    rw [Ob.formB_eq]
    simp [good]
  | .sym p s => by
    show Ob.formB ⟨2, [], [], p, s, [], []⟩ = _
    rw [Ob.formB_eq]
    simp [good]
  | .cons a d => by
    show Ob.formB ⟨4, [], [], [], [], [], [a.ob, d.ob]⟩ = _
    rw [Ob.formB_eq, if_pos rfl]
    simp only [Ob.allB, formB_ob a, formB_ob d, good]
    simp
theorem nodes_ob : ∀ t : Tr, t.ob.nodes = t.size
  | .num q => rfl
  | .txt t => rfl
  | .sym p s => rfl
  | .cons a d => by
    rw [Ob.nodes_two (o := (Tr.cons a d).ob) (a := a.ob) (d := d.ob) rfl, nodes_ob a, nodes_ob d]
    rfl
def valid (t : Tr) : Bool := decide (t.size ≤ 3000) && t.good
theorem validB_ob (t : Tr) : t.ob.validB = t.valid := by unfold Ob.validB valid; rw [nodes_ob, formB_ob]
theorem Ok.sm {k : Nat} (hk : k ≤ 100000) : ∀ {t : Tr}, t.Ok k → t.ob.Sm
  | .num q, h => by
    have h1 := Rb.nlen h
    have h2 := Rb.dlen h
    exact .mk (ratO q) (by show (Lib.itoa q.num).length ≤ _; omega) (by show (Lib.itoa (q.den : Int)).length ≤ _; omega) (fun x hx => by cases hx)
  | .txt t, _ => .mk (txtO t) (Nat.zero_le _) (Nat.zero_le _) (fun x hx => by cases hx)
  | .sym p s, _ => .mk (symO p s) (Nat.zero_le _) (Nat.zero_le _) (fun x hx => by cases hx)
  | .cons a d, h => .mk (consO a.ob d.ob) (Nat.zero_le _) (Nat.zero_le _) (fun x hx => by
      simp only [List.mem_cons, List.not_mem_nil, or_false] at hx
      rcases hx with rfl | rfl
      · exact Ok.sm hk h.1
      · exact Ok.sm hk h.2)
theorem good_ok : ∀ {t : Tr}, t.good = true → t.Ok 101
  | .num q, h => by
    have h1 := of_decide_eq_true h
    have key : ∀ z : Int, dg (Lib.itoa z) ≤ 100 → z.natAbs < 10 ^ 101 := fun z hz => by
      have e : norm (Lib.itoa z) = Lib.itoa z := by rw [norm_eq, Dec.dval_itoa]
      have h2 := norm_mag_len (Lib.itoa z)
      rw [e] at h2
      have h3 : (Lib.itoa z).length ≤ 101 := by
        have : (Dec.mag (norm (Lib.itoa z))).length ≤ 100 := hz
        rw [e] at this
        omega
      have h4 := dval_lt18 h3
      rwa [Dec.dval_itoa] at h4
    have hd := key (q.den : Int) h1.2
    rw [Int.natAbs_natCast] at hd
    exact ⟨key q.num h1.1, hd, by omega⟩
  | .txt t, h => by
    have := of_decide_eq_true h
    show t.length ≤ 100000
    omega
  | .sym p s, h => by
    have h' : (pkgOk p && nameOk s) = true := h
    simp only [pkgOk, nameOk, Bool.and_eq_true, decide_eq_true_eq] at h'
    exact ⟨by omega, by omega⟩
  | .cons a d, h => by
    have h' : (good a && good d) = true := h
    rw [Bool.and_eq_true] at h'
    exact ⟨good_ok h'.1, good_ok h'.2⟩
theorem valid_iff {t : Tr} : valid t = true ↔ t.size ≤ 3000 ∧ t.good = true := by
  unfold valid
  rw [Bool.and_eq_true, decide_eq_true_eq]
theorem valid_parts {a d : Tr} (h : valid (.cons a d) = true) : valid a = true ∧ valid d = true := by
  obtain ⟨h1, h2⟩ := valid_iff.1 h
  have h3 : a.size + d.size + 1 ≤ 3000 := h1
  have h4 : (a.good && d.good) = true := h2
  rw [Bool.and_eq_true] at h4
  have h5 := size_pos a
  have h6 := size_pos d
  exact ⟨valid_iff.2 ⟨by omega, h4.1⟩, valid_iff.2 ⟨by omega, h4.2⟩⟩
/-- a valid ordinal -/
def ov (t : Tr) : Bool := t.valid && t.nf
theorem ov_parts {e c r : Tr} (h : ov (.cons (.cons e c) r) = true) : ov e = true ∧ valid c = true ∧ ov r = true := by
  unfold ov at h ⊢
  rw [Bool.and_eq_true] at h
  have p := nf_parts h.2
  have v1 := valid_parts h.1
  have v2 := valid_parts v1.1
  simp only [Bool.and_eq_true]
  exact ⟨⟨v2.1, p.he⟩, v2.2, v1.2, p.hr⟩
theorem valid_zero : valid zero = true := by decide +kernel
theorem ov_zero : ov zero = true := by unfold ov; rw [valid_zero]; rfl
theorem ov_exp {t : Tr} (h : ov t = true) : ov t.exp = true := by
  rcases fin_or t with f | ⟨e, c, r, rfl⟩
  · rw [exp_fin f]; exact ov_zero
  · exact (ov_parts h).1
theorem ov_rest {t : Tr} (h : ov t = true) : ov t.rest = true := by
  rcases fin_or t with f | ⟨e, c, r, rfl⟩
  · have : t.rest = zero := by
      unfold rest
      split
      · cases f
      · rfl
    rw [this]; exact ov_zero
  · exact (ov_parts h).2.2
theorem ov_nf {t : Tr} (h : ov t = true) : nf t = true := by unfold ov at h; rw [Bool.and_eq_true] at h; exact h.2
theorem ov_valid {t : Tr} (h : ov t = true) : valid t = true := by unfold ov at h; rw [Bool.and_eq_true] at h; exact h.1
/-- what is kept -/
def kept (t : Tr) : Option Tr := if t.valid then some t else none
def addO (a b : Tr) : Option Tr := if ov a && ov b then kept (add a b) else none
def mulO (a b : Tr) : Option Tr := if ov a && ov b then kept (mul a b) else none
def powO (e c r : Tr) : Option Tr := if ov (.cons (.cons e c) r) then some (.cons (.cons e c) r) else none
theorem addO_step {e k r b : Tr} (ha : ov (.cons (.cons e k) r) = true) (hb : ov b = true) (hz : b.isZ = false) (h : less b.exp e = true) :
    addO (.cons (.cons e k) r) b = (addO r b).bind fun x => kept (.cons (.cons e k) x) := by
  have hp := ov_parts ha
  unfold addO
  rw [ha, hb, hp.2.2]
  simp only [Bool.and_self, if_true]
  rw [add3 hz (ov_nf hp.1) (ov_nf hb) h]
  unfold kept
  cases hv : valid (add r b) with
  | true => simp
  | false =>
    simp only [Bool.false_eq_true, if_false, Option.bind_none]
    have : valid (.cons (.cons e k) (add r b)) = false := by
      cases hv2 : valid (.cons (.cons e k) (add r b)) with
      | false => rfl
      | true => rw [(valid_parts hv2).2] at hv; cases hv
    rw [this]; rfl
theorem mulO_step {a e k r : Tr} (ha : ov a = true) (hz : a.isZ = false) (hb : ov (.cons (.cons e k) r) = true) :
    mulO a (.cons (.cons e k) r) = (addO a.exp e).bind fun x => (mulO a r).bind fun y => kept (.cons (.cons x k) y) := by
  have hp := ov_parts hb
  unfold mulO addO
  rw [ha, hb, hp.2.2, ov_exp ha, hp.1]
  simp only [Bool.and_self, if_true]
  rw [mul_inf, if_neg (by rw [hz]; simp)]
  unfold kept
  cases hv : valid (add a.exp e) with
  | true =>
    simp only [if_true, Option.bind_some]
    cases hv2 : valid (mul a r) with
    | true => simp
    | false =>
      simp only [Bool.false_eq_true, if_false, Option.bind_none]
      have : valid (.cons (.cons (add a.exp e) k) (mul a r)) = false := by
        cases hv3 : valid (.cons (.cons (add a.exp e) k) (mul a r)) with
        | false => rfl
        | true => rw [(valid_parts hv3).2] at hv2; cases hv2
      rw [this]; rfl
  | false =>
    simp only [Bool.false_eq_true, if_false, Option.bind_none]
    have : valid (.cons (.cons (add a.exp e) k) (mul a r)) = false := by
      cases hv3 : valid (.cons (.cons (add a.exp e) k) (mul a r)) with
      | false => rfl
      | true => rw [(valid_parts (valid_parts hv3).1).1] at hv; cases hv
    rw [this]; rfl
theorem addO_ov {a b x : Tr} (h : addO a b = some x) : ov x = true := by
  unfold addO at h
  split at h
  · rename_i hab
    rw [Bool.and_eq_true] at hab
    unfold kept at h
    split at h
    · rename_i hv
      injection h with h
      subst h
      unfold ov
      rw [hv, nf_add a b (ov_nf hab.1) (ov_nf hab.2)]
      rfl
    · cases h
  · cases h
theorem mulO_ov {a b x : Tr} (h : mulO a b = some x) : ov x = true := by
  unfold mulO at h
  split at h
  · rename_i hab
    rw [Bool.and_eq_true] at hab
    unfold kept at h
    split at h
    · rename_i hv
      injection h with h
      subst h
      unfold ov
      rw [hv, nf_mul (ov_nf hab.1) b (ov_nf hab.2)]
      rfl
    · cases h
  · cases h
/-- Power as the code has it: the parts, then the whole -/
theorem powO_eq (e c r : Tr) : powO e c r = if ov e && valid c && ov r && (nf e && !e.isZ && c.isNat && !c.isZ && nf r && less r.exp e) then kept (.cons (.cons e c) r) else none := by
  unfold powO kept
  cases h : ov (.cons (.cons e c) r) with
  | true =>
    have hp := ov_parts h
    have hn := ov_nf h
    rw [nf_inf] at hn
    rw [hp.1, hp.2.1, hp.2.2, hn, ov_valid h]
    rfl
  | false =>
    simp only [Bool.false_eq_true, if_false]
    split
    · rename_i h2
      simp only [Bool.and_eq_true] at h2
      split
      · rename_i h3
        exfalso
        have : ov (.cons (.cons e c) r) = true := by
          unfold ov
          rw [h3, nf_inf]
          simp only [Bool.true_and, Bool.and_eq_true]
          exact h2.2
        rw [h] at this
        cases this
      · rfl
    · rfl
end Tr
end Go.Proofs.YtgphkgmhcmffnaaGreatDoor
