/- lispproverlaw2.first returns true; object.Compare at a string and a symbol. -/
import Derived.Test.YtgphkgmhcmffnaaGreatDoorJU
import Derived.Test.YtgphkgmhcmffnaaGreatDoorJR
namespace Go.Proofs.YtgphkgmhcmffnaaGreatDoor
open Go.RowKit

/-- numerator and denominator as strings -/
def sn (q : Rat) : List UInt8 := Lib.itoa q.num
def sd (q : Rat) : List UInt8 := Lib.itoa (q.den : Int)
abbrev nv (q : Rat) (A : Option Addr) (c : Nat) : Value := objV (numO (sn q) (sd q)) (.slice A 0 c)
def RetN (q : Rat) (w : World) (e : Ending) (w' : World) : Prop := ∃ (A : Option Addr) (c : Nat), e = .returned (nv q A c) ∧ Below w.heap.size w w'
theorem wfN {p : Rat} {k : Nat} (bp : Rb k p) (hk : k ≤ 10000) : (numO (sn p) (sd p)).Wf := by
  have h1 := bp.nlen
  have h2 := bp.dlen
  refine .mk _ ?_ ?_ ?_ ?_ ?_ ?_ ?_ ?_ ?_
  · show (-9223372036854775808 : Int) ≤ 1; omega
  · show (1 : Int) ≤ 9223372036854775807; omega
  · show (Lib.itoa p.num).length ≤ _; omega
  · show (Lib.itoa (p.den : Int)).length ≤ _; omega
  · exact Nat.zero_le _
  · exact Nat.zero_le _
  · exact Nat.zero_le _
  · exact Nat.zero_le _
  · intro x hx; cases hx
theorem sumN {p q : Rat} {k m : Nat} (bp : Rb k p) (bq : Rb m q) (hk : k ≤ 10000) (hm : m ≤ 10000) (A A' : Option Addr) (c c' : Nat) (w : World) (ht : Tab w) : Calls Tryz.prog 94 #[nv p A c, nv q A' c'] w (RetN (p + q) w) := oSum_any (ratO p) (ratO q) p q (Val.rat p) (Val.rat q) bp bq hk hm A A' 0 0 c c' rfl rfl w ht
theorem productN {p q : Rat} {k m : Nat} (bp : Rb k p) (bq : Rb m q) (hk : k ≤ 10000) (hm : m ≤ 10000) (A A' : Option Addr) (c c' : Nat) (w : World) (ht : Tab w) : Calls Tryz.prog 99 #[nv p A c, nv q A' c'] w (RetN (p * q) w) := oProduct_any (ratO p) (ratO q) p q (Val.rat p) (Val.rat q) bp bq hk hm A A' 0 0 c c' rfl rfl w ht
theorem lessN {p q : Rat} {k m : Nat} (bp : Rb k p) (bq : Rb m q) (hk : k ≤ 10000) (hm : m ≤ 10000) (A A' : Option Addr) (c c' : Nat) (w : World) (ht : Tab w) : Calls Tryz.prog 92 #[nv p A c, nv q A' c'] w (RetBel (.bool (decide (p < q))) w) := oLess_any (ratO p) (ratO q) p q (Val.rat p) (Val.rat q) bp bq hk hm A A' 0 0 c c' rfl rfl w ht
theorem equalN {p q : Rat} {k : Nat} (bp : Rb k p) (hk : k ≤ 10000) (A A' : Option Addr) (c c' : Nat) (w : World) : Calls Tryz.prog 91 #[nv p A c, nv q A' c'] w (RetBel (.bool (decide (p = q))) w) := by
  refine (oEqual_any (fun _ => True) (fun _ => True) (ratO p).size (ratO p) (ratO q) (Nat.le_refl _) (wfN bp hk) A A' 0 0 c c' w (.nil _ _) (.nil _ _)).mono ?_
  rintro e w1 ⟨b, rfl, hb, h⟩
  refine ⟨?_, h⟩
  rw [ratO_inj] at hb
  congr 2
  cases b with
  | true => rw [decide_eq_true (hb.1 rfl)]
  | false => rw [decide_eq_false (fun e => by have := hb.2 e; cases this)]
theorem intN (n : Int) (w : World) (ht : Tab w) (h0 : -9223372036854775808 ≤ n) (h1 : n ≤ 9223372036854775807) : Calls Tryz.prog 80 #[.int .i64 n] w (RetN (n : Rat) w) := by
  have := oInt_any n w ht h0 h1
  rw [← ratO_int] at this
  exact this.mono fun _ _ h => ⟨none, 0, h.1, h.2⟩
theorem rationalN (a b : List UInt8) (w : World) (ha : a.length ≤ 1100000) (hb : b.length ≤ 1100000) (ht : Tab w) : Calls Tryz.prog 119 #[str a, str b] w (RetN (Rat.divInt (Dec.dval a) (Dec.dval b)) w) :=
  (oRationalQ a b w ha hb ht).mono fun _ _ h => ⟨none, 0, h.1, h.2⟩

theorem rd_two {a d : Ob} {A A' : Option Addr} {n n' c c' : Nat} {w : World} {t : TypeId} (ha : Rd (fun _ => True) w (.slice A n c) (.row (a.pair.map Ob.enc))) (hd : Rd (fun _ => True) w (.slice A' n' c') (.row (d.pair.map Ob.enc))) :
    Rd (fun _ => True) (w.alloc (.cells #[.int .i64 a.kind, str a.num, str a.den, str a.sp, str a.sn, str a.text, .slice A n c, .int .i64 d.kind, str d.num, str d.den, str d.sp, str d.sn, str d.text, .slice A' n' c'] t)) (.slice (some ⟨w.heap.size, 0, none⟩) 2 2) (.row ([a, d].map Ob.enc)) :=
  rd_pair (BlkIs.new _ _ _) trivial (ha.under (box _ _)) (hd.under (box _ _))
abbrev oneO : Ob := numO [49] [49]
abbrev firstO : Ob := consO oneO (consO (txtO [97]) nilO)
theorem first_list : listO [oneO, txtO [97]] = firstO := rfl
theorem first_good : Good firstO := .cons .one (.cons .txt .nil)
theorem first_wf : firstO.Wf := by
  have hn : nilO.Wf := .mk _ (by decide) (by decide) (by decide) (by decide) (by decide) (by decide) (by decide) (by decide) (fun x hx => by cases hx)
  have ht : (txtO [97]).Wf := .mk _ (by decide) (by decide) (by decide) (by decide) (by decide) (by decide) (by decide) (by decide) (fun x hx => by cases hx)
  have ho : oneO.Wf := .mk _ (by decide) (by decide) (by decide) (by decide) (by decide) (by decide) (by decide) (by decide) (fun x hx => by cases hx)
  have hc : (consO (txtO [97]) nilO).Wf := .mk _ (by decide) (by decide) (by decide) (by decide) (by decide) (by decide) (by decide) (by decide) (fun x hx => by
    simp only [List.mem_cons, List.not_mem_nil, or_false] at hx
    rcases hx with rfl | rfl <;> assumption)
  exact .mk _ (by decide) (by decide) (by decide) (by decide) (by decide) (by decide) (by decide) (by decide) (fun x hx => by
    simp only [List.mem_cons, List.not_mem_nil, or_false] at hx
    rcases hx with rfl | rfl <;> assumption)
/-- only one way down -/
theorem Tail.det {o x : Ob} {l : List Ob} (h : Tail o l x) (hx : ¬ ConsO x) (ho : o = firstO) : l = [oneO, txtO [97]] ∧ x = nilO := by
  have key : ∀ {o x : Ob} {l : List Ob}, Tail o l x → o = firstO → (l = [] ∧ x = firstO) ∨ (l = [oneO] ∧ x = consO (txtO [97]) nilO) ∨ (l = [oneO, txtO [97]] ∧ x = nilO) := by
    intro o x l h
    induction h with
    | refl => intro e; exact .inl ⟨rfl, e⟩
    | step h hk hp ih =>
      intro e
      rcases ih e with ⟨rfl, rfl⟩ | ⟨rfl, rfl⟩ | ⟨rfl, rfl⟩
      · injection hp with h1 h2
        injection h2 with h2
        exact .inr (.inl ⟨by rw [← h1]; rfl, h2.symm⟩)
      · injection hp with h1 h2
        injection h2 with h2
        exact .inr (.inr ⟨by rw [← h1]; rfl, h2.symm⟩)
      · cases hk
  rcases key h ho with ⟨_, rfl⟩ | ⟨_, rfl⟩ | h
  · exact absurd ⟨rfl, rfl⟩ hx
  · exact absurd ⟨rfl, rfl⟩ hx
  · exact h
def RetTrue2 (w : World) (e : Ending) (w' : World) : Prop := e = .returned (.bool true) ∧ Below w.heap.size w w'
end Go.Proofs.YtgphkgmhcmffnaaGreatDoor
