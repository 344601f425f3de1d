/- Plain trees: the well-formed objects, and their order. -/
import Derived.Test.YtgphkgmhcmffnaaGreatDoorJU
import Derived.Lib.Bytealg
namespace Go.Proofs.YtgphkgmhcmffnaaGreatDoor
open Go.RowKit

/-- a comparison of three answers that orders a type -/
structure Cmp3 {α : Type} (f : α → α → Int) : Prop where
  rng : ∀ a b, f a b = -1 ∨ f a b = 0 ∨ f a b = 1
  swap : ∀ a b, f b a = - f a b
  zero : ∀ a b, f a b = 0 ↔ a = b
  trans : ∀ a b c, f a b ≤ 0 → f b c ≤ 0 → f a c ≤ 0
abbrev cmpB : List UInt8 → List UInt8 → Int := Lib.compareBytes
theorem cmpB_rng : ∀ a b : List UInt8, cmpB a b = -1 ∨ cmpB a b = 0 ∨ cmpB a b = 1
  | [], [] => .inr (.inl rfl)
  | [], _ :: _ => .inl rfl
  | _ :: _, [] => .inr (.inr rfl)
  | a :: x, b :: y => by
    unfold cmpB Lib.compareBytes
    split
    · exact .inl rfl
    · split
      · exact .inr (.inr rfl)
      · exact cmpB_rng x y
theorem cmpB_swap : ∀ a b : List UInt8, cmpB b a = - cmpB a b
  | [], [] => rfl
  | [], _ :: _ => rfl
  | _ :: _, [] => rfl
  | a :: x, b :: y => by
    unfold cmpB Lib.compareBytes
    have := cmpB_swap x y
    unfold cmpB at this
    by_cases h1 : a < b
    · have h2 : ¬ b < a := fun h => by rw [UInt8.lt_iff_toNat_lt] at h h1; omega
      rw [if_pos h1, if_neg h2, if_pos h1]; rfl
    · by_cases h2 : b < a
      · rw [if_pos h2, if_neg h1, if_pos h2]
      · rw [if_neg h2, if_neg h1, if_neg h1, if_neg h2, this]
theorem cmpB_zero : ∀ a b : List UInt8, cmpB a b = 0 ↔ a = b
  | [], [] => ⟨fun _ => rfl, fun _ => rfl⟩
  | [], _ :: _ => ⟨(fun h => by cases h), (fun h => by cases h)⟩
  | _ :: _, [] => ⟨(fun h => by cases h), (fun h => by cases h)⟩
  | a :: x, b :: y => by
    unfold cmpB Lib.compareBytes
    have := cmpB_zero x y
    unfold cmpB at this
    by_cases h1 : a < b
    · rw [if_pos h1]
      exact ⟨(fun h => by cases h), fun h => by injection h with h _; subst h; rw [UInt8.lt_iff_toNat_lt] at h1; omega⟩
    · by_cases h2 : b < a
      · rw [if_neg h1, if_pos h2]
        exact ⟨(fun h => by cases h), fun h => by injection h with h _; subst h; exact absurd h2 h1⟩
      · rw [if_neg h1, if_neg h2, this]
        have e : a = b := by
          rw [UInt8.lt_iff_toNat_lt] at h1 h2
          exact UInt8.toNat_inj.1 (by omega)
        subst e
        exact ⟨fun h => by rw [h], fun h => by injection h⟩
theorem cmpB_trans : ∀ a b c : List UInt8, cmpB a b ≤ 0 → cmpB b c ≤ 0 → cmpB a c ≤ 0
  | [], _, [] => fun _ _ => by decide
  | [], _, _ :: _ => fun _ _ => by show (-1 : Int) ≤ 0; decide
  | _ :: _, [], _ => fun h _ => by exact absurd (show (1 : Int) ≤ 0 from h) (by decide)
  | _ :: _, _ :: _, [] => fun _ h => by exact absurd (show (1 : Int) ≤ 0 from h) (by decide)
  | a :: x, b :: y, c :: z => by
    unfold cmpB Lib.compareBytes
    have := cmpB_trans x y z
    unfold cmpB at this
    simp only [UInt8.lt_iff_toNat_lt]
    intro h1 h2
    by_cases h3 : a.toNat < b.toNat
    · by_cases h4 : b.toNat < c.toNat
      · rw [if_pos (by omega)]; decide
      · by_cases h5 : c.toNat < b.toNat
        · rw [if_neg h4, if_pos h5] at h2; omega
        · rw [if_pos (by omega)]; decide
    · by_cases h6 : b.toNat < a.toNat
      · rw [if_neg h3, if_pos h6] at h1; omega
      · rw [if_neg h3, if_neg h6] at h1
        by_cases h4 : b.toNat < c.toNat
        · rw [if_pos (by omega)]; decide
        · by_cases h5 : c.toNat < b.toNat
          · rw [if_neg h4, if_pos h5] at h2; omega
          · rw [if_neg h4, if_neg h5] at h2
            rw [if_neg (by omega), if_neg (by omega)]
            exact this h1 h2
theorem cmpB_ok : Cmp3 cmpB := ⟨cmpB_rng, cmpB_swap, cmpB_zero, cmpB_trans⟩
theorem bytesLess_cmp : ∀ a b : List UInt8, Op.bytesLess a b = decide (cmpB a b < 0)
  | [], [] => rfl
  | [], _ :: _ => rfl
  | _ :: _, [] => rfl
  | a :: x, b :: y => by
    unfold cmpB Lib.compareBytes Op.bytesLess
    have := bytesLess_cmp x y
    unfold cmpB at this
    rw [this]
    by_cases h1 : a < b
    · rw [if_pos h1, decide_eq_true h1]; rfl
    · rw [if_neg h1, decide_eq_false h1, Bool.false_or]
      by_cases h2 : b < a
      · rw [if_pos h2]
        have h3 : (a == b) = false := by
          rw [beq_eq_false_iff_ne]
          intro e
          subst e
          exact h1 h2
        rw [h3]; rfl
      · rw [if_neg h2]
        have e : a = b := by
          rw [UInt8.lt_iff_toNat_lt] at h1 h2
          exact UInt8.toNat_inj.1 (by omega)
        rw [show (a == b) = true from beq_iff_eq.2 e, Bool.true_and]
theorem cmpQ_ok : Cmp3 cmpQ where
  rng a b := by unfold cmpQ; split <;> (try split) <;> simp
  swap a b := by
    unfold cmpQ
    by_cases h1 : a < b
    · have h2 : ¬ b < a := by grind
      simp only [if_pos h1, if_neg h2]; rfl
    · by_cases h2 : b < a
      · simp only [if_neg h1, if_pos h2]
      · simp only [if_neg h1, if_neg h2]; rfl
  zero a b := by
    unfold cmpQ
    by_cases h1 : a < b
    · simp only [if_pos h1]
      exact ⟨(fun h => by cases h), fun h => by grind⟩
    · by_cases h2 : b < a
      · simp only [if_neg h1, if_pos h2]
        exact ⟨(fun h => by cases h), fun h => by grind⟩
      · simp only [if_neg h1, if_neg h2]
        exact ⟨fun _ => by grind, fun _ => trivial⟩
  trans a b c := by
    unfold cmpQ
    intro h1 h2
    have e1 : ¬ b < a := fun h => by
      have : ¬ a < b := by grind
      rw [if_neg this, if_pos h] at h1; omega
    have e2 : ¬ c < b := fun h => by
      have : ¬ b < c := by grind
      rw [if_neg this, if_pos h] at h2; omega
    have e3 : ¬ c < a := by grind
    rw [if_neg e3]
    split <;> decide
/-- first by f, then by g -/
def lex3 (x y : Int) : Int := if x = 0 then y else x
theorem lex3_trans {α β : Type} {f : α → α → Int} {g : β → β → Int} (hf : Cmp3 f) {a b c : α} {x y z : β} (hg : g x y ≤ 0 → g y z ≤ 0 → g x z ≤ 0) (h1 : lex3 (f a b) (g x y) ≤ 0) (h2 : lex3 (f b c) (g y z) ≤ 0) : lex3 (f a c) (g x z) ≤ 0 := by
  unfold lex3 at *
  by_cases e1 : f a b = 0
  · obtain rfl := (hf.zero _ _).1 e1
    rw [if_pos e1] at h1
    by_cases e2 : f a c = 0
    · rw [if_pos e2] at h2 ⊢
      exact hg h1 h2
    · rw [if_neg e2] at h2 ⊢
      exact h2
  · rw [if_neg e1] at h1
    by_cases e2 : f b c = 0
    · obtain rfl := (hf.zero _ _).1 e2
      rw [if_neg e1]
      exact h1
    · rw [if_neg e2] at h2
      have h3 := hf.trans a b c h1 h2
      by_cases e3 : f a c = 0
      · exfalso
        obtain rfl := (hf.zero _ _).1 e3
        have := hf.swap a b
        have := hf.rng a b
        omega
      · rw [if_neg e3]; exact h3
theorem lex3_swap {x y x' y' : Int} (h1 : x' = -x) (h2 : y' = -y) : lex3 x' y' = - lex3 x y := by
  unfold lex3
  split <;> split <;> omega
theorem lex3_zero {x y : Int} : lex3 x y = 0 ↔ x = 0 ∧ y = 0 := by
  unfold lex3
  split <;> omega
theorem lex3_rng {x y : Int} (h1 : x = -1 ∨ x = 0 ∨ x = 1) (h2 : y = -1 ∨ y = 0 ∨ y = 1) : lex3 x y = -1 ∨ lex3 x y = 0 ∨ lex3 x y = 1 := by
  unfold lex3
  split <;> assumption

inductive Tr where
  | num (q : Rat)
  | txt (t : List UInt8)
  | sym (p s : List UInt8)
  | cons (a d : Tr)
namespace Tr
def ob : Tr → Ob
  | .num q => ratO q
  | .txt t => txtO t
  | .sym p s => symO p s
  | .cons a d => consO a.ob d.ob
def size : Tr → Nat
  | .cons a d => a.size + d.size + 1
  | _ => 1
theorem size_ob : ∀ t : Tr, t.ob.size = t.size
  | .num q => rfl
  | .txt t => rfl
  | .sym p s => rfl
  | .cons a d => by
    show Ob.size (consO a.ob d.ob) = a.size + d.size + 1
    simp only [Ob.size, Ob.sizeL, size_ob a, size_ob d]
    omega
theorem size_pos (t : Tr) : 1 ≤ t.size := by cases t <;> simp [size]
theorem ob_inj : ∀ {a b : Tr}, a.ob = b.ob → a = b
  | .num p, .num q, h => by rw [ratO_inj.1 h]
  | .txt s, .txt t, h => by injection h with _ _ _ _ _ h; rw [h]
  | .sym p s, .sym p' s', h => by injection h with _ _ _ h1 h2; rw [h1, h2]
  | .cons a d, .cons a' d', h => by
    injection h with _ _ _ _ _ _ h
    injection h with h1 h2
    injection h2 with h2
    rw [ob_inj h1, ob_inj h2]
  | .num _, .txt _, h => by injection h with h; cases h
  | .num _, .sym _ _, h => by injection h with h; cases h
  | .num _, .cons _ _, h => by injection h with h; cases h
  | .txt _, .num _, h => by injection h with h; cases h
  | .txt _, .sym _ _, h => by injection h with h; cases h
  | .txt _, .cons _ _, h => by injection h with h; cases h
  | .sym _ _, .num _, h => by injection h with h; cases h
  | .sym _ _, .txt _, h => by injection h with h; cases h
  | .sym _ _, .cons _ _, h => by injection h with h; cases h
  | .cons _ _, .num _, h => by injection h with h; cases h
  | .cons _ _, .txt _, h => by injection h with h; cases h
  | .cons _ _, .sym _ _, h => by injection h with h; cases h
theorem ob_iff {a b : Tr} : a.ob = b.ob ↔ a = b := ⟨ob_inj, fun h => by rw [h]⟩
/-- numbers of at most k digits, and short strings -/
def Ok (k : Nat) : Tr → Prop
  | .num q => Rb k q
  | .txt t => t.length ≤ 100000
  | .sym p s => p.length ≤ 100000 ∧ s.length ≤ 100000
  | .cons a d => a.Ok k ∧ d.Ok k
theorem Ok.mono {k m : Nat} (hm : k ≤ m) : ∀ {t : Tr}, t.Ok k → t.Ok m
  | .num _, h => Rb.mono h hm
  | .txt _, h => h
  | .sym _ _, h => h
  | .cons _ _, h => ⟨Ok.mono hm h.1, Ok.mono hm h.2⟩
theorem Ok.wf {k : Nat} (hk : k ≤ 100000) : ∀ {t : Tr}, t.Ok k → t.ob.Wf
  | .num q, h => by
    have h1 := Rb.nlen h
    have h2 := Rb.dlen h
    exact .mk (ratO q) (by show (-9223372036854775808 : Int) ≤ 1; omega) (by show (1 : Int) ≤ _; omega) (by show (Lib.itoa q.num).length ≤ _; omega) (by show (Lib.itoa (q.den : Int)).length ≤ _; omega) (Nat.zero_le _) (Nat.zero_le _) (Nat.zero_le _) (Nat.zero_le _) (fun x hx => by cases hx)
  | .txt t, h => by
    have h' : t.length ≤ 100000 := h
    exact .mk (txtO t) (by show (-9223372036854775808 : Int) ≤ 3; omega) (by show (3 : Int) ≤ _; omega) (Nat.zero_le _) (Nat.zero_le _) (Nat.zero_le _) (Nat.zero_le _) (by show t.length ≤ _; omega) (Nat.zero_le _) (fun x hx => by cases hx)
  | .sym p s, h => by
    obtain ⟨h1, h2⟩ := h
    exact .mk (symO p s) (by show (-9223372036854775808 : Int) ≤ 2; omega) (by show (2 : Int) ≤ _; omega) (Nat.zero_le _) (Nat.zero_le _) (by show p.length ≤ _; omega) (by show s.length ≤ _; omega) (Nat.zero_le _) (Nat.zero_le _) (fun x hx => by cases hx)
  | .cons a d, h => by
    have h1 := Ok.wf hk h.1
    have h2 := Ok.wf hk h.2
    exact .mk (consO a.ob d.ob) (by show (-9223372036854775808 : Int) ≤ 4; omega) (by show (4 : Int) ≤ _; omega) (Nat.zero_le _) (Nat.zero_le _) (Nat.zero_le _) (Nat.zero_le _) (Nat.zero_le _) (by show 2 ≤ 9223372036854775807; omega) (fun x hx => by
      simp only [List.mem_cons, List.not_mem_nil, or_false] at hx
      rcases hx with rfl | rfl <;> assumption)
/-- its value in arithmetic -/
def val : Tr → Rat
  | .num q => q
  | _ => 0
theorem val_ob (t : Tr) : Val t.ob t.val := by
  cases t with
  | num q => exact Val.rat q
  | txt t => exact .inr ⟨by show (3 : Int) ≠ 1; decide, rfl⟩
  | sym p s => exact .inr ⟨by show (2 : Int) ≠ 1; decide, rfl⟩
  | cons a d => exact .inr ⟨by show (4 : Int) ≠ 1; decide, rfl⟩
theorem Ok.val {k : Nat} {t : Tr} (h : t.Ok k) (hk : 1 ≤ k) : Rb k t.val := by
  cases t with
  | num q => exact h
  | _ => exact Rb.zero.mono hk
def rank : Tr → Int
  | .num _ => 0
  | .txt _ => 1
  | .sym _ _ => 2
  | .cons _ _ => 3
/-- the order of objects -/
def cmp : Tr → Tr → Int
  | .num p, .num q => cmpQ p q
  | .txt s, .txt t => cmpB s t
  | .sym p s, .sym p' s' => lex3 (cmpB s s') (cmpB p p')
  | .cons a d, .cons a' d' => lex3 (cmp a a') (cmp d d')
  | x, y => if x.rank < y.rank then -1 else 1
theorem cmp_rng : ∀ a b : Tr, cmp a b = -1 ∨ cmp a b = 0 ∨ cmp a b = 1
  | .num p, .num q => cmpQ_ok.rng p q
  | .txt s, .txt t => cmpB_rng s t
  | .sym p s, .sym p' s' => lex3_rng (cmpB_rng s s') (cmpB_rng p p')
  | .cons a d, .cons a' d' => lex3_rng (cmp_rng a a') (cmp_rng d d')
  | .num _, .txt _ => .inl rfl
  | .num _, .sym _ _ => .inl rfl
  | .num _, .cons _ _ => .inl rfl
  | .txt _, .num _ => .inr (.inr rfl)
  | .txt _, .sym _ _ => .inl rfl
  | .txt _, .cons _ _ => .inl rfl
  | .sym _ _, .num _ => .inr (.inr rfl)
  | .sym _ _, .txt _ => .inr (.inr rfl)
  | .sym _ _, .cons _ _ => .inl rfl
  | .cons _ _, .num _ => .inr (.inr rfl)
  | .cons _ _, .txt _ => .inr (.inr rfl)
  | .cons _ _, .sym _ _ => .inr (.inr rfl)
theorem cmp_swap : ∀ a b : Tr, cmp b a = - cmp a b
  | .num p, .num q => cmpQ_ok.swap p q
  | .txt s, .txt t => cmpB_swap s t
  | .sym p s, .sym p' s' => lex3_swap (cmpB_swap s s') (cmpB_swap p p')
  | .cons a d, .cons a' d' => lex3_swap (cmp_swap a a') (cmp_swap d d')
  | .num _, .txt _ => rfl
  | .num _, .sym _ _ => rfl
  | .num _, .cons _ _ => rfl
  | .txt _, .num _ => rfl
  | .txt _, .sym _ _ => rfl
  | .txt _, .cons _ _ => rfl
  | .sym _ _, .num _ => rfl
  | .sym _ _, .txt _ => rfl
  | .sym _ _, .cons _ _ => rfl
  | .cons _ _, .num _ => rfl
  | .cons _ _, .txt _ => rfl
  | .cons _ _, .sym _ _ => rfl
theorem cmp_zero : ∀ a b : Tr, cmp a b = 0 ↔ a = b
  | .num p, .num q => (cmpQ_ok.zero p q).trans ⟨fun h => by rw [h], fun h => by injection h⟩
  | .txt s, .txt t => (cmpB_zero s t).trans ⟨fun h => by rw [h], fun h => by injection h⟩
  | .sym p s, .sym p' s' => by
    show lex3 _ _ = 0 ↔ _
    rw [lex3_zero, cmpB_zero, cmpB_zero]
    exact ⟨fun h => by rw [h.1, h.2], fun h => by injection h with h1 h2; exact ⟨h2, h1⟩⟩
  | .cons a d, .cons a' d' => by
    show lex3 _ _ = 0 ↔ _
    rw [lex3_zero, cmp_zero a a', cmp_zero d d']
    exact ⟨fun h => by rw [h.1, h.2], fun h => by injection h with h1 h2; exact ⟨h1, h2⟩⟩
  | .num _, .txt _ => ⟨(fun h => by cases h), (fun h => by cases h)⟩
  | .num _, .sym _ _ => ⟨(fun h => by cases h), (fun h => by cases h)⟩
  | .num _, .cons _ _ => ⟨(fun h => by cases h), (fun h => by cases h)⟩
  | .txt _, .num _ => ⟨(fun h => by cases h), (fun h => by cases h)⟩
  | .txt _, .sym _ _ => ⟨(fun h => by cases h), (fun h => by cases h)⟩
  | .txt _, .cons _ _ => ⟨(fun h => by cases h), (fun h => by cases h)⟩
  | .sym _ _, .num _ => ⟨(fun h => by cases h), (fun h => by cases h)⟩
  | .sym _ _, .txt _ => ⟨(fun h => by cases h), (fun h => by cases h)⟩
  | .sym _ _, .cons _ _ => ⟨(fun h => by cases h), (fun h => by cases h)⟩
  | .cons _ _, .num _ => ⟨(fun h => by cases h), (fun h => by cases h)⟩
  | .cons _ _, .txt _ => ⟨(fun h => by cases h), (fun h => by cases h)⟩
  | .cons _ _, .sym _ _ => ⟨(fun h => by cases h), (fun h => by cases h)⟩
theorem cmp_rank {a b : Tr} (h : a.rank ≠ b.rank) : cmp a b = if a.rank < b.rank then -1 else 1 := by
  cases a <;> cases b <;> first | rfl | exact absurd rfl h
theorem cmp_le_rank {a b : Tr} (h : cmp a b ≤ 0) : a.rank ≤ b.rank := by
  rcases Int.lt_trichotomy a.rank b.rank with h1 | h1 | h1
  · omega
  · omega
  · rw [cmp_rank (by omega), if_neg (by omega)] at h; omega
theorem cmp_trans : ∀ a b c : Tr, cmp a b ≤ 0 → cmp b c ≤ 0 → cmp a c ≤ 0 := by
  intro a
  induction a with
  | num p =>
    intro b c h1 h2
    by_cases hr : (Tr.num p).rank = c.rank
    · have r1 := cmp_le_rank h1
      have r2 := cmp_le_rank h2
      have hb : b.rank = 0 := by have : (Tr.num p).rank = 0 := rfl; omega
      cases b <;> cases hb
      cases c <;> cases hr
      exact cmpQ_ok.trans _ _ _ h1 h2
    · have r1 := cmp_le_rank h1
      have r2 := cmp_le_rank h2
      rw [cmp_rank hr, if_pos (by omega)]; decide
  | txt s =>
    intro b c h1 h2
    by_cases hr : (Tr.txt s).rank = c.rank
    · have r1 := cmp_le_rank h1
      have r2 := cmp_le_rank h2
      have hb : b.rank = 1 := by have : (Tr.txt s).rank = 1 := rfl; omega
      cases b <;> cases hb
      cases c <;> cases hr
      exact cmpB_trans _ _ _ h1 h2
    · have r1 := cmp_le_rank h1
      have r2 := cmp_le_rank h2
      rw [cmp_rank hr, if_pos (by omega)]; decide
  | sym p s =>
    intro b c h1 h2
    by_cases hr : (Tr.sym p s).rank = c.rank
    · have r1 := cmp_le_rank h1
      have r2 := cmp_le_rank h2
      have hb : b.rank = 2 := by have : (Tr.sym p s).rank = 2 := rfl; omega
      cases b <;> cases hb
      cases c <;> cases hr
      exact lex3_trans (g := cmpB) cmpB_ok (cmpB_trans _ _ _) h1 h2
    · have r1 := cmp_le_rank h1
      have r2 := cmp_le_rank h2
      rw [cmp_rank hr, if_pos (by omega)]; decide
  | cons x y ihx ihy =>
    intro b c h1 h2
    by_cases hr : (Tr.cons x y).rank = c.rank
    · have r1 := cmp_le_rank h1
      have r2 := cmp_le_rank h2
      have hb : b.rank = 3 := by have : (Tr.cons x y).rank = 3 := rfl; omega
      cases b <;> cases hb
      cases c <;> cases hr
      rename_i b1 b2 c1 c2
      replace h1 : lex3 (cmp x b1) (cmp y b2) ≤ 0 := h1
      replace h2 : lex3 (cmp b1 c1) (cmp b2 c2) ≤ 0 := h2
      show lex3 (cmp x c1) (cmp y c2) ≤ 0
      unfold lex3 at *
      by_cases e1 : cmp x b1 = 0
      · obtain rfl := (cmp_zero _ _).1 e1
        rw [if_pos e1] at h1
        by_cases e2 : cmp x c1 = 0
        · rw [if_pos e2] at h2 ⊢
          exact ihy _ _ h1 h2
        · rw [if_neg e2] at h2 ⊢
          exact h2
      · rw [if_neg e1] at h1
        by_cases e2 : cmp b1 c1 = 0
        · obtain rfl := (cmp_zero _ _).1 e2
          rw [if_neg e1]
          exact h1
        · rw [if_neg e2] at h2
          have h3 := ihx b1 c1 h1 h2
          by_cases e3 : cmp x c1 = 0
          · exfalso
            obtain rfl := (cmp_zero _ _).1 e3
            have := cmp_swap x b1
            have := cmp_rng x b1
            omega
          · rw [if_neg e3]; exact h3
    · have r1 := cmp_le_rank h1
      have r2 := cmp_le_rank h2
      rw [cmp_rank hr, if_pos (by omega)]; decide
theorem cmp_ok : Cmp3 cmp := ⟨cmp_rng, cmp_swap, cmp_zero, cmp_trans⟩
def list : List Tr → Tr
  | [] => .sym lispB nilB
  | a :: r => .cons a (list r)
theorem list_ob : ∀ l : List Tr, (list l).ob = listO (l.map ob)
  | [] => rfl
  | a :: r => by show consO a.ob (list r).ob = _; rw [list_ob r]; rfl
end Tr
end Go.Proofs.YtgphkgmhcmffnaaGreatDoor
