/- Visible, Home, Initial: of package symbol and of the reference. -/
import Derived.Test.YtjefhgmnjfclaabDoorSymD
import Derived.Test.YtjefhgmnjfclaabDoorOwnD
namespace Go.Proofs.YtjefhgmnjfclaabDoor
open Go.RowKit

def visP (l : List Pk) (cur : List UInt8) (s : Sy) : Bool := decide ((internP l cur s.name).2 = 0) && decide ((internP l cur s.name).1 = s)
structure PkOk (ok : Nat → Prop) (w : World) (A : Option Addr) (n c : Nat) (l : List Pk) : Prop where
  rd : Rd ok w (.slice A n c) (.row (l.map Pk.enc))
  n : n ≤ 1000000000
  imps : ∀ p ∈ l, p.imps.length ≤ 1000000000
theorem PkOk.under {ok : Nat → Prop} {w w' : World} {A : Option Addr} {n c : Nat} {l : List Pk} (h : PkOk ok w A n c l) (hb : Below w.heap.size w w') : PkOk ok w' A n c l := ⟨h.rd.under hb, h.n, h.imps⟩

def lispPk : Pk := ⟨[108, 105, 115, 112], []⟩
def RetPks (ok : Nat → Prop) (l : List Pk) (w : World) (e : Ending) (w' : World) : Prop := ∃ A n c, e = .returned (.slice A n c) ∧ PkOk (fun b => ok b ∨ w.heap.size ≤ b) w' A n c l ∧ Below w.heap.size w w'
theorem lisp_rd (w : World) : Rd (fun b => False ∨ w.heap.size ≤ b) (w.alloc (.cells #[str [108, 105, 115, 112], .slice none 0 0] 33)) (.slice (some ⟨w.heap.size, 0, none⟩) 1 1) (.row ([lispPk].map Pk.enc)) := by
  obtain ⟨h0, h1, _⟩ := (BlkIs.new w 33 #[str [108, 105, 115, 112], .slice none 0 0]).two
  refine Rd.mk (k := 2) rfl (Nat.le_refl _) (by simp) (.inr (Nat.le_refl _)) (fun i hi => ?_) (fun i j hi hj => ?_)
  · obtain rfl : i = 0 := by simpa using hi
    rfl
  · obtain rfl : i = 0 := by simpa using hi
    rcases j with _ | _ | j
    · exact ⟨_, h0, .val _⟩
    · exact ⟨_, h1, .nil _ _⟩
    · exact absurd hj (by simp [Pk.enc])

set_option maxHeartbeats 1000000 in
theorem symVisible_any (ok : Nat → Prop) (l : List Pk) (cur : List UInt8) (s : Sy) (A : Option Addr) (n c : Nat) (w : World) (hl : PkOk ok w A n c l) (hm : s.name.length ≤ 9223372036854775807) :
    Calls Tryd.prog 29 #[.slice A n c, str cur, symAgg s] w (RetBel (.bool (visP l cur s)) w) := by
  have HI : Hid (∀ (w' : World), Below w.heap.size w w' → Calls Tryd.prog 25 #[.slice A n c, str cur, str s.name] w' (RetSym (internP l cur s.name) w')) := fun w' hb => symIntern_any ok l cur s.name A n c w' (hl.rd.under hb) hl.n hl.imps hm
  have HV : Hid (visP l cur s = (decide ((internP l cur s.name).2 = 0) && decide ((internP l cur s.name).1 = s))) := rfl
  generalize internP l cur s.name = r at HI HV
  obtain ⟨x, e⟩ := r
  dsimp only at HV
  obtain ⟨sp, sn⟩ := s
  obtain ⟨xp, xn⟩ := x
  by_cases he : e = 0
  · subst he
    cases h1 : (xp == sp) with
    | false =>
      have HR : Hid (visP l cur ⟨sp, sn⟩ = false) := by show _ = _; rw [HV.out]; simp; intro h; simp [h] at h1
      go_enter Tryd.func29, Tryd.ntmps29
      go_wp2_with fail
      refine (HI.out _ (box _ _)).mono ?_
      rintro e w1 ⟨rfl, hb1⟩
      have HB := Lib.hid (BlkIs.via hb1)
      obtain ⟨c0, c1, f0, f1, hlt⟩ := HB.out.two
      go_wp2
      go_ret
      exact ⟨by rw [HR.out]; rfl, box2 (via hb1) _⟩
    | true =>
      cases h2 : (xn == sn) with
      | false =>
        have HR : Hid (visP l cur ⟨sp, sn⟩ = false) := by show _ = _; rw [HV.out]; simp; intro _ h; simp [h] at h2
        go_enter Tryd.func29, Tryd.ntmps29
        go_wp2_with fail
        refine (HI.out _ (box _ _)).mono ?_
        rintro e w1 ⟨rfl, hb1⟩
        have HB := Lib.hid (BlkIs.via hb1)
        obtain ⟨c0, c1, f0, f1, hlt⟩ := HB.out.two
        go_wp2
        go_ret
        exact ⟨by rw [HR.out]; rfl, box2 (via hb1) _⟩
      | true =>
        have HR : Hid (visP l cur ⟨sp, sn⟩ = true) := by show _ = _; rw [HV.out]; simp; exact ⟨by simpa using h1, by simpa using h2⟩
        go_enter Tryd.func29, Tryd.ntmps29
        go_wp2_with fail
        refine (HI.out _ (box _ _)).mono ?_
        rintro e w1 ⟨rfl, hb1⟩
        have HB := Lib.hid (BlkIs.via hb1)
        obtain ⟨c0, c1, f0, f1, hlt⟩ := HB.out.two
        go_wp2
        go_ret
        exact ⟨by rw [HR.out]; rfl, box2 (via hb1) _⟩
  · have HR : Hid (visP l cur ⟨sp, sn⟩ = false) := by show _ = _; rw [HV.out]; simp [he]
    have he' : (e == 0) = false := by simpa using he
    go_enter Tryd.func29, Tryd.ntmps29
    go_wp2_with fail
    refine (HI.out _ (box _ _)).mono ?_
    rintro e w1 ⟨rfl, hb1⟩
    have HB := Lib.hid (BlkIs.via hb1)
    obtain ⟨c0, c1, f0, f1, hlt⟩ := HB.out.two
    go_wp2
    go_ret
    exact ⟨by rw [HR.out]; rfl, box2 (via hb1) _⟩

set_option maxHeartbeats 1000000 in
theorem refVisible_any (ok : Nat → Prop) (l : List Pk) (cur : List UInt8) (s : Sy) (A : Option Addr) (n c : Nat) (w : World) (hl : PkOk ok w A n c l) (hm : s.name.length ≤ 9223372036854775807) :
    Calls Tryd.prog 30 #[.slice A n c, str cur, symAgg s] w (RetBel (.bool (visP l cur s)) w) := by
  have HI : Hid (∀ (w' : World), Below w.heap.size w w' → Calls Tryd.prog 26 #[.slice A n c, str cur, str s.name] w' (RetSym (internP l cur s.name) w')) := fun w' hb => refIntern_any ok l cur s.name A n c w' (hl.rd.under hb) hl.n hl.imps hm
  have HV : Hid (visP l cur s = (decide ((internP l cur s.name).2 = 0) && decide ((internP l cur s.name).1 = s))) := rfl
  generalize internP l cur s.name = r at HI HV
  obtain ⟨x, e⟩ := r
  dsimp only at HV
  obtain ⟨sp, sn⟩ := s
  obtain ⟨xp, xn⟩ := x
  by_cases he : e = 0
  · subst he
    cases h1 : (xp == sp) with
    | false =>
      have HR : Hid (visP l cur ⟨sp, sn⟩ = false) := by show _ = _; rw [HV.out]; simp; intro h; simp [h] at h1
      go_enter Tryd.func30, Tryd.ntmps30
      go_wp2_with fail
      refine (HI.out _ (box _ _)).mono ?_
      rintro e w1 ⟨rfl, hb1⟩
      have HB := Lib.hid (BlkIs.via hb1)
      obtain ⟨c0, c1, f0, f1, hlt⟩ := HB.out.two
      go_wp2
      go_ret
      exact ⟨by rw [HR.out]; rfl, box2 (via hb1) _⟩
    | true =>
      cases h2 : (xn == sn) with
      | false =>
        have HR : Hid (visP l cur ⟨sp, sn⟩ = false) := by show _ = _; rw [HV.out]; simp; intro _ h; simp [h] at h2
        go_enter Tryd.func30, Tryd.ntmps30
        go_wp2_with fail
        refine (HI.out _ (box _ _)).mono ?_
        rintro e w1 ⟨rfl, hb1⟩
        have HB := Lib.hid (BlkIs.via hb1)
        obtain ⟨c0, c1, f0, f1, hlt⟩ := HB.out.two
        go_wp2
        go_ret
        exact ⟨by rw [HR.out]; rfl, box2 (via hb1) _⟩
      | true =>
        have HR : Hid (visP l cur ⟨sp, sn⟩ = true) := by show _ = _; rw [HV.out]; simp; exact ⟨by simpa using h1, by simpa using h2⟩
        go_enter Tryd.func30, Tryd.ntmps30
        go_wp2_with fail
        refine (HI.out _ (box _ _)).mono ?_
        rintro e w1 ⟨rfl, hb1⟩
        have HB := Lib.hid (BlkIs.via hb1)
        obtain ⟨c0, c1, f0, f1, hlt⟩ := HB.out.two
        go_wp2
        go_ret
        exact ⟨by rw [HR.out]; rfl, box2 (via hb1) _⟩
  · have HR : Hid (visP l cur ⟨sp, sn⟩ = false) := by show _ = _; rw [HV.out]; simp [he]
    have he' : (e == 0) = false := by simpa using he
    go_enter Tryd.func30, Tryd.ntmps30
    go_wp2_with fail
    refine (HI.out _ (box _ _)).mono ?_
    rintro e w1 ⟨rfl, hb1⟩
    have HB := Lib.hid (BlkIs.via hb1)
    obtain ⟨c0, c1, f0, f1, hlt⟩ := HB.out.two
    go_wp2
    go_ret
    exact ⟨by rw [HR.out]; rfl, box2 (via hb1) _⟩

set_option maxHeartbeats 1000000 in
theorem symHome_any (ok : Nat → Prop) (l : List Pk) (s : Sy) (A : Option Addr) (n c : Nat) (w : World) (hl : PkOk ok w A n c l) (hm : s.name.length ≤ 9223372036854775807) :
    Calls Tryd.prog 27 #[.slice A n c, symAgg s] w (RetBel (.bool (visP l s.pkg s)) w) := by
  have HI : Hid (∀ (w' : World), Below w.heap.size w w' → Calls Tryd.prog 29 #[.slice A n c, str s.pkg, symAgg s] w' (RetBel (.bool (visP l s.pkg s)) w')) := fun w' hb => symVisible_any ok l s.pkg s A n c w' (hl.under hb) hm
  go_enter Tryd.func27, Tryd.ntmps27
  go_wp2_with fail
  refine (HI.out _ (box _ _)).mono ?_
  rintro e w1 ⟨rfl, hb1⟩
  go_wp2
  go_ret
  exact ⟨rfl, via hb1⟩

set_option maxHeartbeats 1000000 in
theorem refHome_any (ok : Nat → Prop) (l : List Pk) (s : Sy) (A : Option Addr) (n c : Nat) (w : World) (hl : PkOk ok w A n c l) (hm : s.name.length ≤ 9223372036854775807) :
    Calls Tryd.prog 28 #[.slice A n c, symAgg s] w (RetBel (.bool (visP l s.pkg s)) w) := by
  have HI : Hid (∀ (w' : World), Below w.heap.size w w' → Calls Tryd.prog 30 #[.slice A n c, str s.pkg, symAgg s] w' (RetBel (.bool (visP l s.pkg s)) w')) := fun w' hb => refVisible_any ok l s.pkg s A n c w' (hl.under hb) hm
  go_enter Tryd.func28, Tryd.ntmps28
  go_wp2_with fail
  refine (HI.out _ (box _ _)).mono ?_
  rintro e w1 ⟨rfl, hb1⟩
  go_wp2
  go_ret
  exact ⟨rfl, via hb1⟩

set_option maxHeartbeats 1000000 in
theorem symInitial_any (w : World) : Calls Tryd.prog 15 #[] w (RetPks (fun _ => False) [lispPk] w) := by
  go_enter Tryd.func15, Tryd.ntmps15
  go_wp2
  go_ret
  exact ⟨_, _, _, rfl, ⟨lisp_rd w, by omega, fun p hp => by obtain rfl := List.mem_singleton.1 hp; exact Nat.zero_le _⟩, box _ _⟩

set_option maxHeartbeats 1000000 in
theorem refInitial_any (w : World) : Calls Tryd.prog 16 #[] w (RetPks (fun _ => False) [lispPk] w) := by
  go_enter Tryd.func16, Tryd.ntmps16
  go_wp2
  go_ret
  exact ⟨_, _, _, rfl, ⟨lisp_rd w, by omega, fun p hp => by obtain rfl := List.mem_singleton.1 hp; exact Nat.zero_le _⟩, box _ _⟩
end Go.Proofs.YtjefhgmnjfclaabDoor
