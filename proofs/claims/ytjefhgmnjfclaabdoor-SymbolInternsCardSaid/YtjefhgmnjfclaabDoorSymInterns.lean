/- lispproverlaw4.SymbolInterns returns true. -/
import Derived.Test.YtjefhgmnjfclaabDoorSymJ
namespace Go.Proofs.YtjefhgmnjfclaabDoor
open Go.RowKit

set_option maxHeartbeats 2000000 in
set_option maxRecDepth 100000 in
theorem interns_any (ok : Nat → Prop) (l : List Pk) (cur nm : List UInt8) (A : Option Addr) (n c : Nat) (w : World) (ha : PksIn ok w A n c l) (hn : n ≤ 9223372036854775807) (hm : nm.length ≤ 9223372036854775807) :
    Calls Tryd.prog 6 #[.slice A n c, str cur, str nm] w (RetTrue4 w) := by
  have HL := Lib.hid ha.rd.len
  rw [List.length_map] at HL
  have HF : Hid (∀ (w' : World) (z : Bool), Below w.heap.size w w' → fewP l = z → Calls Tryd.prog 17 #[.slice A n c] w' (RetBel (.bool z) w')) := fun w' z hb hz => by have := few_any ok l A n c w' (ha.rd.under hb) hn; rwa [hz] at this
  cases hz : fewP l with
  | false =>
    have HZ := Lib.hid hz
    clear hz
    go_enter Tryd.func6, Tryd.ntmps6
    go_wp2_with fail
    refine (first4_any _).mono ?_
    rintro e v1 ⟨rfl, b1⟩
    go_wp2_with fail
    refine (HF.out _ _ b1 HZ.out).mono ?_
    rintro e v2 ⟨rfl, hb⟩
    have b2 := then_ b1 hb
    go_wp2
    go_ret
    exact ⟨rfl, b2⟩
  | true =>
    have HZ := Lib.hid hz
    unfold fewP at hz
    simp only [Bool.and_eq_true, decide_eq_true_eq, List.all_eq_true] at hz
    obtain ⟨hz1, hz2⟩ := hz
    rw [HL.out] at hz1
    have HM : Hid (∀ w' : World, Below w.heap.size w w' → Calls Tryd.prog 18 #[.slice A n c] w' (RetPks ok (madeP l) w')) := fun w' hb => made_any ok l A n c w' ⟨ha.rd.under hb, ha.names⟩ hz1 hz2
    by_cases h60 : 60 < nm.length
    · go_enter Tryd.func6, Tryd.ntmps6
      go_wp2_with fail
      refine (first4_any _).mono ?_
      rintro e v1 ⟨rfl, b1⟩
      go_wp2_with fail
      refine (HF.out _ _ b1 HZ.out).mono ?_
      rintro e v2 ⟨rfl, hb⟩
      have b2 := then_ b1 hb
      clear hb
      go_wp2
      go_ret
      exact ⟨rfl, b2⟩
    · go_enter Tryd.func6, Tryd.ntmps6
      go_wp2_with fail
      refine (first4_any _).mono ?_
      rintro e v1 ⟨rfl, b1⟩
      go_wp2_with fail
      refine (HF.out _ _ b1 HZ.out).mono ?_
      rintro e v2 ⟨rfl, hb⟩
      have b2 := then_ b1 hb
      clear hb
      go_wp2_with fail
      refine (HM.out _ b2).mono ?_
      rintro e v3 ⟨A3, n3, c3, rfl, h3, hb⟩
      have b3 := then_ b2 hb
      clear hb
      have HI : Hid (∀ w' : World, Below v3.heap.size v3 w' → Calls Tryd.prog 25 #[.slice A3 n3 c3, str cur, str nm] w' (RetSym (internP (madeP l) cur nm) w')) := fun w' hb => symIntern_any _ (madeP l) cur nm A3 n3 c3 w' (h3.rd.under hb) h3.n h3.imps hm
      have HJ : Hid (∀ w' : World, Below v3.heap.size v3 w' → Calls Tryd.prog 26 #[.slice A3 n3 c3, str cur, str nm] w' (RetSym (internP (madeP l) cur nm) w')) := fun w' hb => refIntern_any _ (madeP l) cur nm A3 n3 c3 w' (h3.rd.under hb) h3.n h3.imps hm
      generalize internP (madeP l) cur nm = r at *
      obtain ⟨⟨rp, rn⟩, re⟩ := r
      go_wp2_with fail
      refine (HI.out _ (Below.refl _ _)).mono ?_
      rintro e v4 ⟨rfl, hb4⟩
      have b4 := then_ b3 hb4
      go_wp2_with fail
      refine (HJ.out _ (box2 hb4 _)).mono ?_
      rintro e v5 ⟨rfl, hb5⟩
      have b5 := via2 b4 hb5
      obtain ⟨d0, d1, _, _, d4⟩ := (BlkIs.via hb5).two
      go_wp2
      go_ret
      exact ⟨rfl, box2 b5 _⟩
theorem interns_card (w : World) (l : List Pk) (A : Option Addr) (n c : Nat) (h : PksIn (fun _ => True) w A n c l ∧ n ≤ maxLen) (cur : List UInt8) (_hc : cur.length ≤ 9223372036854775807) (nm : List UInt8) (hm : nm.length ≤ 9223372036854775807) :
    Calls Tryd.prog 6 #[.slice A n c, .string ⟨cur.toArray⟩, .string ⟨nm.toArray⟩] w (RetTrue4 w) := interns_any _ l cur nm A n c w h.1 h.2 hm
end Go.Proofs.YtjefhgmnjfclaabDoor
