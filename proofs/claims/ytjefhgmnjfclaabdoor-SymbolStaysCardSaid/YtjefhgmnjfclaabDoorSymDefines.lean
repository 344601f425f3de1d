/- lispproverlaw4.SymbolDefines returns true. -/
import Derived.Test.YtjefhgmnjfclaabDoorSymJ
namespace Go.Proofs.YtjefhgmnjfclaabDoor
open Go.RowKit

theorem madeStep_len (out : List Pk) (p : Pk) : (madeStep out p).length ≤ out.length + 1 := by
  unfold madeStep
  split
  · rename_i h; rw [firstBad_zero_of h]; simp
  · omega
theorem foldl_made (l : List Pk) : ∀ out : List Pk, (l.foldl madeStep out).length ≤ out.length + l.length := by
  induction l with
  | nil => intro out; simp
  | cons p r ih =>
    intro out
    rw [List.foldl_cons, List.length_cons]
    have := ih (madeStep out p)
    have := madeStep_len out p
    omega
theorem madeP_len (l : List Pk) : (madeP l).length ≤ l.length + 1 := by
  have := foldl_made l [lispPk]
  simp only [List.length_singleton] at this
  unfold madeP; omega

set_option maxHeartbeats 2000000 in
set_option maxRecDepth 100000 in
theorem defines_any (ok : Nat → Prop) (l : List Pk) (p : Pk) (Ai : Option Addr) (ni ci : Nat) (A : Option Addr) (n c : Nat) (w : World) (ha : PksIn ok w A n c l) (hn : n ≤ 9223372036854775807) (hi : Rd ok w (.slice Ai ni ci) (.row (p.imps.map Sy.enc))) (hni : ni ≤ 9223372036854775807) (hpn : p.name.length ≤ 9223372036854775807) (hpi : ∀ s ∈ p.imps, SyOk s) :
    Calls Tryd.prog 4 #[.slice A n c, .agg #[str p.name, .slice Ai ni ci]] w (RetTrue4 w) := by
  have HL := Lib.hid ha.rd.len
  rw [List.length_map] at HL
  have HF : Hid (∀ (w' : World) (z : Bool), Below w.heap.size w w' → fewP l = z → Calls Tryd.prog 17 #[.slice A n c] w' (RetBel (.bool z) w')) := fun w' z hb hz => by have := few_any ok l A n c w' (ha.rd.under hb) hn; rwa [hz] at this
  cases hz : fewP l with
  | false =>
    have HZ := Lib.hid hz
    clear hz
    go_enter Tryd.func4, Tryd.ntmps4
    go_wp2_with fail
    refine (first4_any _).mono ?_
    rintro e v1 ⟨rfl, hb⟩
    have b1 := via hb
    have HB1 := Lib.hid (BlkIs.via hb)
    obtain ⟨c0, c1, f0, f1, hlt⟩ := HB1.out.two
    clear hb
    go_wp2_with fail
    refine (HF.out _ _ b1 HZ.out).mono ?_
    rintro e v2 ⟨rfl, hb⟩
    have b2 := then_ b1 hb
    have HB2 := Lib.hid (HB1.out.below hb)
    obtain ⟨x2, y2, _, _, z2⟩ := HB2.out.two
    clear hb
    go_wp2
    go_ret
    exact ⟨rfl, b2⟩
  | true =>
    have HZ := Lib.hid hz
    unfold fewP at hz
    simp only [Bool.and_eq_true, decide_eq_true_eq, List.all_eq_true] at hz
    obtain ⟨hz1, hz2⟩ := hz
    rw [HL.out] at hz1
    have HM : Hid (∀ w' : World, Below w.heap.size w w' → Calls Tryd.prog 18 #[.slice A n c] w' (RetPks ok (madeP l) w')) := fun w' hb => made_any ok l A n c w' ⟨ha.rd.under hb, ha.names⟩ hz1 hz2
    by_cases h8 : 8 < ni
    · go_enter Tryd.func4, Tryd.ntmps4
      go_wp2_with fail
      refine (first4_any _).mono ?_
      rintro e v1 ⟨rfl, hb⟩
      have b1 := via hb
      have HB1 := Lib.hid (BlkIs.via hb)
      obtain ⟨c0, c1, f0, f1, hlt⟩ := HB1.out.two
      clear hb
      go_wp2_with fail
      refine (HF.out _ _ b1 HZ.out).mono ?_
      rintro e v2 ⟨rfl, hb⟩
      have b2 := then_ b1 hb
      have HB2 := Lib.hid (HB1.out.below hb)
      obtain ⟨x2, y2, _, _, z2⟩ := HB2.out.two
      clear hb
      go_wp2
      go_ret
      exact ⟨rfl, b2⟩
    · go_enter Tryd.func4, Tryd.ntmps4
      go_wp2_with fail
      refine (first4_any _).mono ?_
      rintro e v1 ⟨rfl, hb⟩
      have b1 := via hb
      have HB1 := Lib.hid (BlkIs.via hb)
      obtain ⟨c0, c1, f0, f1, hlt⟩ := HB1.out.two
      clear hb
      go_wp2_with fail
      refine (HF.out _ _ b1 HZ.out).mono ?_
      rintro e v2 ⟨rfl, hb⟩
      have b2 := then_ b1 hb
      have HB2 := Lib.hid (HB1.out.below hb)
      obtain ⟨x2, y2, _, _, z2⟩ := HB2.out.two
      clear hb
      go_wp2_with fail
      refine (HM.out _ b2).mono ?_
      rintro e v3 ⟨A3, n3, c3, rfl, h3, hb⟩
      have b3 := then_ b2 hb
      have HB3 := Lib.hid (HB2.out.below hb)
      obtain ⟨x3, y3, _, _, z3⟩ := HB3.out.two
      clear hb
      have hlm := madeP_len l
      have h3l := h3.len
      have hn3 : n3 ≤ n + 1 := by rw [← h3l, ← HL.out]; exact hlm
      clear hlm h3l
      have hi3 : Rd (fun b => ok b ∨ v2.heap.size ≤ b) v3 (.slice Ai ni ci) (.row (p.imps.map Sy.enc)) := (hi.under b3).mono fun _ h _ => .inl h
      have HD1 : Hid (∀ w' : World, Below v3.heap.size v3 w' → Calls Tryd.prog 19 #[.slice A3 n3 c3, .agg #[str p.name, .slice Ai ni ci]] w' (RetPksE (fun b => ok b ∨ v2.heap.size ≤ b) (defineP (madeP l) p) w')) := fun w' hb => symDefine_any _ (madeP l) p A3 Ai n3 c3 ni ci w' (h3.under hb) (hi3.under hb) (by omega) (by omega) hpn hpi
      have HD2 : Hid (∀ w' : World, Below v3.heap.size v3 w' → Calls Tryd.prog 20 #[.slice A3 n3 c3, .agg #[str p.name, .slice Ai ni ci]] w' (RetPksE (fun b => ok b ∨ v2.heap.size ≤ b) (defineP (madeP l) p) w')) := fun w' hb => refDefine_any _ (madeP l) p A3 Ai n3 c3 ni ci w' (h3.under hb) (hi3.under hb) (by omega) (by omega) hpn hpi
      have HF1 : Hid (∀ w' : World, Below v3.heap.size v3 w' → Calls Tryd.prog 21 #[.slice A3 n3 c3, str p.name] w' (RetFind (fun b => ok b ∨ v2.heap.size ≤ b) (findP (madeP l) p.name) w')) := fun w' hb => symFind_any _ (madeP l) p.name A3 n3 c3 w' (h3.rd.under hb) h3.n
      have HF2 : Hid (∀ w' : World, Below v3.heap.size v3 w' → Calls Tryd.prog 22 #[.slice A3 n3 c3, str p.name] w' (RetFind (fun b => ok b ∨ v2.heap.size ≤ b) (findP (madeP l) p.name) w')) := fun w' hb => refFind_any _ (madeP l) p.name A3 n3 c3 w' (h3.rd.under hb) h3.n
      generalize defineP (madeP l) p = r at *
      obtain ⟨rl, re⟩ := r
      have d3 : Below v3.heap.size v3 v3 := Below.refl _ _
      go_wp2_with fail
      refine (HD1.out _ d3).mono ?_
      rintro e v4 ⟨A4, n4, c4, rfl, h4, hb4⟩
      have d4 := then_ d3 hb4
      obtain ⟨x4, y4, _, _, z4⟩ := (HB3.out.below d4).two
      go_wp2_with fail
      refine (HD2.out _ d4).mono ?_
      rintro e v5 ⟨A5, n5, c5, rfl, h5, hb5⟩
      have d5 := then_ d4 hb5
      obtain ⟨x5, y5, _, _, z5⟩ := (HB3.out.below d5).two
      have h45 := h4.under hb5
      cases hf : findP (madeP l) p.name with
      | none =>
        rw [hf] at HF1 HF2
        clear hf
        go_wp2_with fail
        refine (HF1.out _ d5).mono ?_
        rintro e v6 ⟨rfl, hb6⟩
        have d6 := then_ d5 hb6
        obtain ⟨x6, y6, _, _, z6⟩ := (HB3.out.below d6).two
        go_wp2_with fail
        refine (HF2.out _ (box2 d6 _)).mono ?_
        rintro e v7 ⟨rfl, hb7⟩
        have d7 := via2 d6 hb7
        have HX := Lib.hid (BlkIs.via hb7)
        have hab := same_packages _ _ rl A4 A5 n4 n5 c4 c5 (v7.alloc (.cells #[str [], .slice none 0 0] 33)) ((h45.under (box2 (then_ hb6 (via hb7)) _))) (h5.under (box2 (then_ hb6 (via hb7)) _))
        have HAB := Lib.hid hab
        clear hab
        have HY := Lib.hid (BlkIs.new v7 33 #[str [], .slice none 0 0])
        go_wp2_with fail
        refine HAB.out.mono ?_
        rintro e v8 ⟨rfl, hb8⟩
        obtain ⟨u0, u1, _, _, u2⟩ := ((HX.out.alloc _).below hb8).two
        obtain ⟨t0, t1, _, _, t2⟩ := (HY.out.below hb8).two
        go_wp2
        go_ret
        exact ⟨rfl, then_ b3 (via2 d7 hb8)⟩
      | some q =>
        rw [hf] at HF1 HF2
        clear hf
        go_wp2_with fail
        refine (HF1.out _ d5).mono ?_
        rintro e v6 ⟨⟨A6, n6, c6, rfl, h6⟩, hb6⟩
        have d6 := then_ d5 hb6
        obtain ⟨x6, y6, _, _, z6⟩ := (HB3.out.below d6).two
        go_wp2_with fail
        refine (HF2.out _ (box2 d6 _)).mono ?_
        rintro e v7 ⟨⟨A7, n7, c7, rfl, h7⟩, hb7⟩
        have d7 := via2 d6 hb7
        obtain rfl : n7 = n6 := by rw [← h7.len, ← h6.len]
        have HX := Lib.hid (BlkIs.via hb7)
        have hab := same_packages _ _ rl A4 A5 n4 n5 c4 c5 (v7.alloc (.cells #[str q.name, .slice A7 n7 c7] 33)) ((h45.under (box2 (then_ hb6 (via hb7)) _))) (h5.under (box2 (then_ hb6 (via hb7)) _))
        have HAB := Lib.hid hab
        clear hab
        have HY := Lib.hid (BlkIs.new v7 33 #[str q.name, .slice A7 n7 c7])
        go_wp2_with fail
        refine HAB.out.mono ?_
        rintro e v8 ⟨rfl, hb8⟩
        obtain ⟨u0, u1, _, _, u2⟩ := ((HX.out.alloc _).below hb8).two
        obtain ⟨t0, t1, _, _, t2⟩ := (HY.out.below hb8).two
        go_wp2
        go_ret
        exact ⟨rfl, then_ b3 (via2 d7 hb8)⟩
theorem defines_card (w : World) (l : List Pk) (A : Option Addr) (n c : Nat) (h : PksIn (fun _ => True) w A n c l ∧ n ≤ maxLen) (p : Pk) (Ai : Option Addr) (ni ci : Nat) (hp : Rd (fun _ => True) w (.slice Ai ni ci) (.row (p.imps.map Sy.enc)) ∧ ni ≤ maxLen ∧ p.name.length ≤ 9223372036854775807 ∧ ∀ s ∈ p.imps, SyOk s) :
    Calls Tryd.prog 4 #[.slice A n c, .agg #[str p.name, .slice Ai ni ci]] w (RetTrue4 w) := defines_any _ l p Ai ni ci A n c w h.1 h.2 hp.1 hp.2.1 hp.2.2.1 hp.2.2.2
end Go.Proofs.YtjefhgmnjfclaabDoor
