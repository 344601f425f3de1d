/- lispproverlaw4.SymbolStays returns true. -/
import Derived.Test.YtjefhgmnjfclaabDoorSymDefines
namespace Go.Proofs.YtjefhgmnjfclaabDoor
open Go.RowKit

/-! ### what is defined stays -/
theorem findP_some_append {l : List Pk} {p q : Pk} {x : List UInt8} (h : findP l x = some q) : findP (l ++ [p]) x = some q := by
  unfold findP at h ⊢
  rw [List.find?_append, h]; rfl
theorem intern_find {l : List Pk} {cur nm : List UInt8} {s : Sy} (h : internP l cur nm = (s, 0)) : ∃ q, findP l cur = some q := by
  unfold internP at h
  cases hf : findP l cur with
  | some q => exact ⟨q, rfl⟩
  | none => rw [hf] at h; cases h
theorem intern_append {l : List Pk} {p : Pk} {cur nm : List UInt8} {s : Sy} (h : internP l cur nm = (s, 0)) : internP (l ++ [p]) cur nm = (s, 0) := by
  obtain ⟨q, hq⟩ := intern_find h
  rw [← h]
  unfold internP
  rw [hq, findP_some_append hq]
theorem vis_iff {l : List Pk} {cur : List UInt8} {s : Sy} : visP l cur s = true ↔ internP l cur s.name = (s, 0) := by
  unfold visP
  constructor
  · intro h
    simp only [Bool.and_eq_true, decide_eq_true_eq] at h
    exact Prod.ext h.2 h.1
  · intro h; rw [h]; simp
theorem vis_append {l : List Pk} {p : Pk} {cur : List UInt8} {s : Sy} (h : visP l cur s = true) : visP (l ++ [p]) cur s = true := vis_iff.2 (intern_append (vis_iff.1 h))
def Homes (l : List Pk) : Prop := ∀ p ∈ l, ∀ s ∈ p.imps, visP l s.pkg s = true
theorem bad_zero {l : List Pk} {is : List Sy} {i : Nat} {s : Sy} (h : badAt l is i s = 0) : visP l s.pkg s = true := by
  unfold badAt at h
  by_cases h1 : symOk s = false
  · rw [if_pos h1] at h; cases h
  · rw [if_neg h1] at h
    cases h2 : visP l s.pkg s with
    | true => rfl
    | false => rw [if_pos h2] at h; cases h
theorem firstBad_all {l : List Pk} {is : List Sy} : ∀ (r : List Sy) (i : Nat), firstBad l is i r = 0 → ∀ s ∈ r, visP l s.pkg s = true
  | [], _, _, s, hs => by cases hs
  | x :: r, i, h, s, hs => by
    rw [firstBad] at h
    by_cases h1 : badAt l is i x = 0
    · rw [if_pos h1] at h
      rcases List.mem_cons.1 hs with rfl | hs
      · exact bad_zero h1
      · exact firstBad_all r (i + 1) h s hs
    · rw [if_neg h1] at h; exact absurd h h1
theorem define_homes {l : List Pk} {p : Pk} (hl : Homes l) (h : (defineP l p).2 = 0) : Homes (l ++ [p]) := by
  have hf : firstBad l p.imps 0 p.imps = 0 := by
    unfold defineP at h
    by_cases h1 : pkgOk p.name = false
    · rw [if_pos h1] at h; cases h
    · rw [if_neg h1] at h
      by_cases h2 : (findP l p.name).isSome = true
      · rw [if_pos h2] at h; cases h
      · rw [if_neg h2] at h
        by_cases h3 : 200 < p.imps.length
        · rw [if_pos h3] at h; cases h
        · rw [if_neg h3] at h
          by_cases h4 : firstBad l p.imps 0 p.imps = 0
          · exact h4
          · rw [if_neg h4] at h; exact h
  intro q hq s hs
  rcases List.mem_append.1 hq with hq | hq
  · exact vis_append (hl q hq s hs)
  · obtain rfl := List.mem_singleton.1 hq
    exact vis_append (firstBad_all _ 0 hf s hs)
theorem made_homes (l : List Pk) : Homes (madeP l) := by
  unfold madeP
  have h0 : Homes [lispPk] := fun p hp s hs => by obtain rfl := List.mem_singleton.1 hp; cases hs
  generalize [lispPk] = out at h0
  induction l generalizing out with
  | nil => exact h0
  | cons p r ih =>
    rw [List.foldl_cons]
    apply ih
    unfold madeStep
    split
    · rename_i h; rw [firstBad_zero_of h]; exact define_homes h0 h
    · exact h0
theorem intern_home {l : List Pk} (hl : Homes l) {cur nm : List UInt8} {s : Sy} (h : internP l cur nm = (s, 0)) : visP l s.pkg s = true := by
  obtain ⟨q, hq⟩ := intern_find h
  have h' := h
  unfold internP at h
  rw [hq] at h
  simp only at h
  by_cases h1 : nm.length < 1 ∨ 40 < nm.length
  · rw [if_pos h1] at h; cases h
  · rw [if_neg h1] at h
    cases hs : findS q.imps nm with
    | some t =>
      rw [hs] at h
      obtain rfl : t = s := (Prod.mk.inj h).1
      exact hl q (List.mem_of_find?_eq_some hq) t (List.mem_of_find?_eq_some hs)
    | none =>
      rw [hs] at h
      obtain rfl : (⟨cur, nm⟩ : Sy) = s := (Prod.mk.inj h).1
      exact vis_iff.2 h'
theorem made_names (l : List Pk) (hl : ∀ p ∈ l, ∀ s ∈ p.imps, SyOk s) : ∀ q ∈ madeP l, ∀ s ∈ q.imps, SyOk s := by
  unfold madeP
  have h0 : ∀ q ∈ [lispPk], ∀ s ∈ q.imps, SyOk s := fun p hp s hs => by obtain rfl := List.mem_singleton.1 hp; cases hs
  generalize [lispPk] = out at h0
  induction l generalizing out with
  | nil => exact h0
  | cons p r ih =>
    rw [List.foldl_cons]
    apply ih (fun q hq => hl q (List.mem_cons_of_mem _ hq))
    unfold madeStep
    split
    · rename_i h
      rw [firstBad_zero_of h]
      intro q hq
      rcases List.mem_append.1 hq with hq | hq
      · exact h0 q hq
      · obtain rfl := List.mem_singleton.1 hq
        exact hl q (List.mem_cons_self ..)
    · exact h0
theorem intern_name {l : List Pk} {cur nm : List UInt8} {s : Sy} (hm : nm.length ≤ 9223372036854775807) (h : internP l cur nm = (s, 0)) (hl : ∀ q ∈ l, ∀ t ∈ q.imps, SyOk t) : s.name.length ≤ 9223372036854775807 := by
  obtain ⟨q, hq⟩ := intern_find h
  unfold internP at h
  rw [hq] at h
  simp only at h
  by_cases h1 : nm.length < 1 ∨ 40 < nm.length
  · rw [if_pos h1] at h; cases h
  · rw [if_neg h1] at h
    cases hs : findS q.imps nm with
    | some t =>
      rw [hs] at h
      obtain rfl : t = s := (Prod.mk.inj h).1
      exact (hl q (List.mem_of_find?_eq_some hq) t (List.mem_of_find?_eq_some hs)).name
    | none =>
      rw [hs] at h
      obtain rfl : (⟨cur, nm⟩ : Sy) = s := (Prod.mk.inj h).1
      exact hm

set_option maxHeartbeats 2000000 in
set_option maxRecDepth 100000 in
theorem stays_any (ok : Nat → Prop) (l : List Pk) (p : Pk) (Ai : Option Addr) (ni ci : Nat) (cur nm : List UInt8) (A : Option Addr) (n c : Nat) (w : World) (ha : PksIn ok w A n c l) (hn : n ≤ 9223372036854775807) (hi : Rd ok w (.slice Ai ni ci) (.row (p.imps.map Sy.enc))) (hni : ni ≤ 9223372036854775807) (hpn : p.name.length ≤ 9223372036854775807) (hpi : ∀ s ∈ p.imps, SyOk s) (hm : nm.length ≤ 9223372036854775807) :
    Calls Tryd.prog 8 #[.slice A n c, .agg #[str p.name, .slice Ai ni ci], str cur, str nm] w (RetTrue4 w) := by
  have HL := Lib.hid ha.rd.len
  rw [List.length_map] at HL
  have HF : Hid (∀ (w' : World) (z : Bool), Below w.heap.size w w' → fewP l = z → Calls Tryd.prog 17 #[.slice A n c] w' (RetBel (.bool z) w')) := fun w' z hb hz => by have := few_any ok l A n c w' (ha.rd.under hb) hn; rwa [hz] at this
  cases hz : fewP l with
  | false =>
    have HZ := Lib.hid hz
    clear hz
    go_enter Tryd.func8, Tryd.ntmps8
    go_wp2_with fail
    refine (first4_any _).mono ?_
    rintro e v1 ⟨rfl, hb⟩
    have b1 := via hb
    have HB1 := Lib.hid (BlkIs.via hb)
    obtain ⟨c0, c1, f0, f1, hlt⟩ := HB1.out.two
    clear hb
    go_wp2_with fail
    refine (HF.out _ _ b1 HZ.out).mono ?_
    rintro e v2 ⟨rfl, hb⟩
    have b2 := then_ b1 hb
    have HB2 := Lib.hid (HB1.out.below hb)
    obtain ⟨x2, y2, _, _, z2⟩ := HB2.out.two
    clear hb
    go_wp2
    go_ret
    exact ⟨rfl, b2⟩
  | true =>
    have HZ := Lib.hid hz
    unfold fewP at hz
    simp only [Bool.and_eq_true, decide_eq_true_eq, List.all_eq_true] at hz
    obtain ⟨hz1, hz2⟩ := hz
    rw [HL.out] at hz1
    have HM : Hid (∀ w' : World, Below w.heap.size w w' → Calls Tryd.prog 18 #[.slice A n c] w' (RetPks ok (madeP l) w')) := fun w' hb => made_any ok l A n c w' ⟨ha.rd.under hb, ha.names⟩ hz1 hz2
    by_cases h8 : 8 < ni
    · go_enter Tryd.func8, Tryd.ntmps8
      go_wp2_with fail
      refine (first4_any _).mono ?_
      rintro e v1 ⟨rfl, hb⟩
      have b1 := via hb
      have HB1 := Lib.hid (BlkIs.via hb)
      obtain ⟨c0, c1, f0, f1, hlt⟩ := HB1.out.two
      clear hb
      go_wp2_with fail
      refine (HF.out _ _ b1 HZ.out).mono ?_
      rintro e v2 ⟨rfl, hb⟩
      have b2 := then_ b1 hb
      have HB2 := Lib.hid (HB1.out.below hb)
      obtain ⟨x2, y2, _, _, z2⟩ := HB2.out.two
      clear hb
      go_wp2
      go_ret
      exact ⟨rfl, b2⟩
    · go_enter Tryd.func8, Tryd.ntmps8
      go_wp2_with fail
      refine (first4_any _).mono ?_
      rintro e v1 ⟨rfl, hb⟩
      have b1 := via hb
      have HB1 := Lib.hid (BlkIs.via hb)
      obtain ⟨c0, c1, f0, f1, hlt⟩ := HB1.out.two
      clear hb
      go_wp2_with fail
      refine (HF.out _ _ b1 HZ.out).mono ?_
      rintro e v2 ⟨rfl, hb⟩
      have b2 := then_ b1 hb
      have HB2 := Lib.hid (HB1.out.below hb)
      obtain ⟨x2, y2, _, _, z2⟩ := HB2.out.two
      clear hb
      go_wp2_with fail
      refine (HM.out _ b2).mono ?_
      rintro e v3 ⟨A3, n3, c3, rfl, h3, hb⟩
      have b3 := then_ b2 hb
      have HB3 := Lib.hid (HB2.out.below hb)
      obtain ⟨x3, y3, _, _, z3⟩ := HB3.out.two
      clear hb
      have hlm := madeP_len l
      have h3l := h3.len
      have hn3 : n3 ≤ n + 1 := by rw [← h3l, ← HL.out]; exact hlm
      clear hlm h3l
      have hi3 : Rd (fun b => ok b ∨ v2.heap.size ≤ b) v3 (.slice Ai ni ci) (.row (p.imps.map Sy.enc)) := (hi.under b3).mono fun _ h _ => .inl h
      have HD1 : Hid (∀ w' : World, Below v3.heap.size v3 w' → Calls Tryd.prog 19 #[.slice A3 n3 c3, .agg #[str p.name, .slice Ai ni ci]] w' (RetPksE (fun b => ok b ∨ v2.heap.size ≤ b) (defineP (madeP l) p) w')) := fun w' hb => symDefine_any _ (madeP l) p A3 Ai n3 c3 ni ci w' (h3.under hb) (hi3.under hb) (by omega) (by omega) hpn hpi
      have HI : Hid (∀ w' : World, Below v3.heap.size v3 w' → Calls Tryd.prog 25 #[.slice A3 n3 c3, str cur, str nm] w' (RetSym (internP (madeP l) cur nm) w')) := fun w' hb => symIntern_any _ (madeP l) cur nm A3 n3 c3 w' (h3.rd.under hb) h3.n h3.imps hm
      have d3 : Below v3.heap.size v3 v3 := Below.refl _ _
      obtain ⟨s, re, hr⟩ : ∃ s re, internP (madeP l) cur nm = (s, re) := ⟨_, _, rfl⟩
      rw [hr] at HI
      by_cases he : re = 0
      · subst he
        have HR := Lib.hid hr
        have HV := Lib.hid (intern_home (made_homes l) hr)
        clear hr
        have hsn : s.name.length ≤ 9223372036854775807 := intern_name hm HR.out (made_names l fun p hp => (ha.names p hp).2)
        have HH : Hid (∀ w' : World, Below v3.heap.size v3 w' → Calls Tryd.prog 27 #[.slice A3 n3 c3, symAgg s] w' (RetBel (.bool true) w')) := fun w' hb => by
          have := symHome_any _ (madeP l) s A3 n3 c3 w' (h3.under hb) hsn
          rwa [HV.out] at this
        go_wp2_with fail
        refine (HI.out _ d3).mono ?_
        rintro e v4 ⟨rfl, hb4⟩
        have d4 := then_ d3 hb4
        obtain ⟨x4, y4, _, _, z4⟩ := (HB3.out.below d4).two
        by_cases hd : (defineP (madeP l) p).2 = 0
        · have HD := Lib.hid (firstBad_zero_of hd)
          have HRd : Hid (defineP (madeP l) p = (madeP l ++ [p], 0)) := Prod.ext HD.out hd
          rw [HRd.out] at HD1
          clear hd
          go_wp2_with fail
          refine (HD1.out _ (box2 d4 _)).mono ?_
          rintro e v5 ⟨A5, n5, c5, rfl, h5, hb5⟩
          have d5 := via2 d4 hb5
          have HS5 := Lib.hid (BlkIs.via hb5)
          have HJ : Hid (∀ w' : World, Below v5.heap.size v5 w' → Calls Tryd.prog 25 #[.slice A5 n5 c5, str cur, str nm] w' (RetSym (s, 0) w')) := fun w' hb => by
            have := symIntern_any _ (madeP l ++ [p]) cur nm A5 n5 c5 w' (h5.rd.under hb) h5.n h5.imps hm
            rwa [intern_append HR.out] at this
          have HK : Hid (∀ w' : World, Below v5.heap.size v5 w' → Calls Tryd.prog 27 #[.slice A5 n5 c5, symAgg s] w' (RetBel (.bool true) w')) := fun w' hb => by
            have := symHome_any _ (madeP l ++ [p]) s A5 n5 c5 w' (h5.under hb) hsn
            rwa [vis_append HV.out] at this
          go_wp2_with fail
          refine (HJ.out _ (Below.refl _ _)).mono ?_
          rintro e v6 ⟨rfl, hb6⟩
          have HS6 := Lib.hid (HS5.out.below hb6)
          obtain ⟨x6, y6, _, _, z6⟩ := HS6.out.two
          have d6 := then_ d5 hb6
          go_wp2_with fail
          refine (HH.out _ (box2 d6 _)).mono ?_
          rintro e v7 ⟨rfl, hb7⟩
          have hb67 := via hb7
          have HT7 := Lib.hid (BlkIs.via hb7)
          have HS7 := Lib.hid (HS6.out.below hb67)
          obtain ⟨x7, y7, _, _, z7⟩ := HS7.out.two
          go_wp2_with fail
          refine (HK.out _ (then_ hb6 hb67)).mono ?_
          rintro e v8 ⟨rfl, hb8⟩
          obtain ⟨x8, y8, _, _, z8⟩ := (HS7.out.below hb8).two
          obtain ⟨p8, q8, _, _, r8⟩ := (HT7.out.below hb8).two
          go_wp2
          go_ret
          exact ⟨rfl, then_ b3 (then_ d6 (then_ hb67 hb8))⟩
        · have hd' : ((defineP (madeP l) p).2 != 0) = true := by simpa using hd
          generalize defineP (madeP l) p = rr at *
          obtain ⟨rl, rz⟩ := rr
          dsimp only at hd' hd
          clear hd
          go_wp2_with fail
          refine (HD1.out _ (box2 d4 _)).mono ?_
          rintro e v5 ⟨A5, n5, c5, rfl, h5, hb5⟩
          have d5 := via2 d4 hb5
          obtain ⟨x5, y5, _, _, z5⟩ := (BlkIs.via hb5).two
          go_wp2_with fail
          refine (HH.out _ d5).mono ?_
          rintro e v6 ⟨rfl, hb6⟩
          go_wp2
          go_ret
          exact ⟨rfl, then_ b3 (then_ d5 hb6)⟩
      · have he' : (re != 0) = true := by simpa using he
        clear hr he
        go_wp2_with fail
        refine (HI.out _ d3).mono ?_
        rintro e v4 ⟨rfl, hb4⟩
        go_wp2
        go_ret
        exact ⟨rfl, box2 (then_ b3 hb4) _⟩
theorem stays_card (w : World) (l : List Pk) (A : Option Addr) (n c : Nat) (h : PksIn (fun _ => True) w A n c l ∧ n ≤ maxLen) (p : Pk) (Ai : Option Addr) (ni ci : Nat) (hp : Rd (fun _ => True) w (.slice Ai ni ci) (.row (p.imps.map Sy.enc)) ∧ ni ≤ maxLen ∧ p.name.length ≤ 9223372036854775807 ∧ ∀ s ∈ p.imps, SyOk s) (cur : List UInt8) (_hc : cur.length ≤ 9223372036854775807) (nm : List UInt8) (hm : nm.length ≤ 9223372036854775807) :
    Calls Tryd.prog 8 #[.slice A n c, .agg #[str p.name, .slice Ai ni ci], .string ⟨cur.toArray⟩, .string ⟨nm.toArray⟩] w (RetTrue4 w) := stays_any _ l p Ai ni ci cur nm A n c w h.1 h.2 hp.1 hp.2.1 hp.2.2.1 hp.2.2.2 hm
end Go.Proofs.YtjefhgmnjfclaabDoor
