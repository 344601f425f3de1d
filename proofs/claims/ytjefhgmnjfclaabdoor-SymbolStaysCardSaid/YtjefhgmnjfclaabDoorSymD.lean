/- Intern, Visible, Home: of package symbol and of the reference. -/
import Derived.Test.YtjefhgmnjfclaabDoorSymC
namespace Go.Proofs.YtjefhgmnjfclaabDoor
open Go.RowKit

def findS (l : List Sy) (nm : List UInt8) : Option Sy := l.find? fun s => s.name == nm
def internP (l : List Pk) (cur nm : List UInt8) : Sy × Int :=
  match findP l cur with
  | none => (⟨[], []⟩, 13)
  | some p => if nm.length < 1 ∨ 40 < nm.length then (⟨[], []⟩, 3) else
    match findS p.imps nm with
    | some s => (s, 0)
    | none => (⟨cur, nm⟩, 0)
def RetSym (r : Sy × Int) (w : World) (e : Ending) (w' : World) : Prop := e = .returned (.tuple #[symAgg r.1, .int .i64 r.2]) ∧ Below w.heap.size w w'
theorem findS_step {l : List Sy} {nm : List UInt8} {k : Nat} (hk : k < l.length) (h : ((l[k]).name == nm) = false) : findS (l.drop (k + 1)) nm = findS (l.drop k) nm := by
  unfold findS
  rw [List.drop_eq_getElem_cons hk, List.find?_cons, h]
theorem findS_hit {l : List Sy} {nm : List UInt8} {k : Nat} (hk : k < l.length) (h : ((l[k]).name == nm) = true) : findS (l.drop k) nm = some l[k] := by
  unfold findS
  rw [List.drop_eq_getElem_cons hk, List.find?_cons, h]
theorem findS_none {l : List Sy} {nm : List UInt8} {k : Nat} (hk : l.length ≤ k) : findS (l.drop k) nm = none := by
  unfold findS
  rw [List.drop_of_length_le hk]; rfl

set_option maxHeartbeats 1000000 in
theorem symIntern_any (ok : Nat → Prop) (l : List Pk) (cur nm : List UInt8) (A : Option Addr) (n c : Nat) (w : World) (hl : Rd ok w (.slice A n c) (.row (l.map Pk.enc))) (hn : n ≤ 1000000000) (hs : ∀ p ∈ l, p.imps.length ≤ 1000000000) (hm : nm.length ≤ 9223372036854775807) :
    Calls Tryd.prog 25 #[.slice A n c, str cur, str nm] w (RetSym (internP l cur nm) w) := by
  have HF : Hid (∀ (w' : World), Below w.heap.size w w' → Calls Tryd.prog 21 #[.slice A n c, str cur] w' (RetFind ok (findP l cur) w')) := fun w' hb => symFind_any ok l cur A n c w' (hl.under hb) hn
  cases hf : findP l cur with
  | none =>
    have HI : Hid (internP l cur nm = (⟨[], []⟩, 13)) := by show _ = _; unfold internP; rw [hf]
    rw [hf] at HF
    clear hf hs
    go_enter Tryd.func25, Tryd.ntmps25
    go_wp2_with fail
    refine (HF.out _ (box _ _)).mono ?_
    rintro e w1 ⟨rfl, hb1⟩
    have HB := Lib.hid (BlkIs.via hb1)
    obtain ⟨c0, c1, f0, f1, hlt⟩ := HB.out.two
    go_wp2
    obtain ⟨r0, r1, _⟩ := ((((HB.out).at0 (str [])).at1 (str [])).alloc (Obj.cells #[str [], .slice none 0 0] 33)).two
    refine bodyPost_ret (v := .tuple #[.agg #[str [], str []], .int .i64 13]) (by simp [results, Tryd.results25, go_sem, r0, r1]) rfl ?_
    exact ⟨by rw [HI.out], box2 (set2 (set2 (via hb1) (Nat.le_refl _) _) (Nat.le_refl _) _) _⟩
  | some p =>
    have hps : p.imps.length ≤ 1000000000 := hs p (List.mem_of_find?_eq_some hf)
    by_cases hn1 : nm.length < 1 ∨ 40 < nm.length
    · have HI : Hid (internP l cur nm = (⟨[], []⟩, 3)) := by show _ = _; unfold internP; simp only [hf, if_pos hn1]
      rw [hf] at HF
      clear hf hs
      rcases hn1 with hn1 | hn1
      all_goals
        go_enter Tryd.func25, Tryd.ntmps25
        go_wp2_with fail
        refine (HF.out _ (box _ _)).mono ?_
        rintro e w1 ⟨⟨A2, n2, c2, rfl, hr⟩, hb1⟩
        have HB := Lib.hid (BlkIs.via hb1)
        obtain ⟨c0, c1, f0, f1, hlt⟩ := HB.out.two
        go_wp2
        obtain ⟨r0, r1, _⟩ := ((((HB.out).at0 (str [])).at1 (str [])).alloc (Obj.cells #[str p.name, .slice A2 n2 c2] 33)).two
        refine bodyPost_ret (v := .tuple #[.agg #[str [], str []], .int .i64 3]) (by simp [results, Tryd.results25, go_sem, r0, r1]) rfl ?_
        exact ⟨by rw [HI.out], box2 (set2 (set2 (via hb1) (Nat.le_refl _) _) (Nat.le_refl _) _) _⟩
    · have HI : Hid (internP l cur nm = match findS p.imps nm with | some s => (s, 0) | none => (⟨cur, nm⟩, 0)) := by show _ = _; unfold internP; simp only [hf, if_neg hn1]
      rw [hf] at HF
      clear hf hs
      have g1 : ¬ nm.length < 1 := by omega
      have g2 : ¬ 40 < nm.length := by omega
      clear hn1
      go_enter Tryd.func25, Tryd.ntmps25
      go_wp2_with fail
      refine (HF.out _ (box _ _)).mono ?_
      rintro e w1 ⟨⟨A2, n2, c2, rfl, hr⟩, hb1⟩
      have HB := Lib.hid (BlkIs.via hb1)
      obtain ⟨c0, c1, f0, f1, hlt⟩ := HB.out.two
      go_wp2
      have HLp := Lib.hid hr.len
      rw [List.length_map] at HLp
      have hn2 : n2 ≤ 1000000000 := by rw [← HLp.out]; exact hps
      clear hps
      go_loopw [33] (fun ix wr => ∃ k : Nat, k ≤ n2 ∧ ix = .int .i64 k ∧ Hid (findS (p.imps.drop k) nm = findS p.imps nm) ∧ Below (w.alloc (.cells #[str [], str []] 23)).heap.size (w.alloc (.cells #[str [], str []] 23)) wr) (fun ix _ => n2 - (intOf ix).toNat)
      case atStart => exact ⟨0, Nat.zero_le _, rfl, Lib.hid rfl, box2 hb1 _⟩
      case round =>
        obtain ⟨k, hk, rfl, HK, hb⟩ := hrel
        have HB2 := Lib.hid (BlkIs.via hb)
        obtain ⟨d0, d1, g0, g3, hlt2⟩ := HB2.out.two
        by_cases hkn : k < n2
        · obtain ⟨b, o, hkl, rfl, hbl, hok, h0, h1⟩ := hr.syms hb hkn
          have hbl' := Nat.lt_of_lt_of_le hbl hb.size
          cases hmm : ((p.imps[k]).name == nm) with
          | false =>
            have HS := Lib.hid (findS_step hkl hmm)
            go_wp2
            go_roundw
            case rel => exact ⟨k + 1, by omega, by go_num, Lib.hid (HS.out.trans HK.out), box2 hb _⟩
            case measure => simp only [intOf]; omega
          | true =>
            have HH := Lib.hid (HK.out.symm.trans (findS_hit hkl hmm))
            go_wp2
            obtain ⟨r0, r1, _⟩ := ((((HB2.out).at0 (str (p.imps[k]).pkg)).at1 (str (p.imps[k]).name)).alloc (Obj.cells #[str (p.imps[k]).pkg, str (p.imps[k]).name] 23)).two
            refine bodyPost_ret (v := .tuple #[.agg #[str (p.imps[k]).pkg, str (p.imps[k]).name], .int .i64 0]) (by simp [results, Tryd.results25, go_sem, r0, r1]) rfl ?_
            exact ⟨by rw [HI.out, HH.out], box2 (set2 (set2 (via hb) (Nat.le_refl _) _) (Nat.le_refl _) _) _⟩
        · have HM := Lib.hid (HK.out.symm.trans (findS_none (nm := nm) (l := p.imps) (k := k) (by rw [HLp.out]; omega)))
          go_wp2
          obtain ⟨r0, r1, _⟩ := ((((HB2.out).at0 (str cur)).at1 (str nm))).two
          refine bodyPost_ret (v := .tuple #[.agg #[str cur, str nm], .int .i64 0]) (by simp [results, Tryd.results25, go_sem, r0, r1]) rfl ?_
          exact ⟨by rw [HI.out, HM.out], set2 (set2 (via hb) (Nat.le_refl _) _) (Nat.le_refl _) _⟩
set_option maxHeartbeats 1000000 in
theorem refIntern_any (ok : Nat → Prop) (l : List Pk) (cur nm : List UInt8) (A : Option Addr) (n c : Nat) (w : World) (hl : Rd ok w (.slice A n c) (.row (l.map Pk.enc))) (hn : n ≤ 1000000000) (hs : ∀ p ∈ l, p.imps.length ≤ 1000000000) (hm : nm.length ≤ 9223372036854775807) :
    Calls Tryd.prog 26 #[.slice A n c, str cur, str nm] w (RetSym (internP l cur nm) w) := by
  have HF : Hid (∀ (w' : World), Below w.heap.size w w' → Calls Tryd.prog 22 #[.slice A n c, str cur] w' (RetFind ok (findP l cur) w')) := fun w' hb => refFind_any ok l cur A n c w' (hl.under hb) hn
  cases hf : findP l cur with
  | none =>
    have HI : Hid (internP l cur nm = (⟨[], []⟩, 13)) := by show _ = _; unfold internP; rw [hf]
    rw [hf] at HF
    clear hf hs
    go_enter Tryd.func26, Tryd.ntmps26
    go_wp2_with fail
    refine (HF.out _ (box _ _)).mono ?_
    rintro e w1 ⟨rfl, hb1⟩
    have HB := Lib.hid (BlkIs.via hb1)
    obtain ⟨c0, c1, f0, f1, hlt⟩ := HB.out.two
    go_wp2
    obtain ⟨r0, r1, _⟩ := ((((HB.out).at0 (str [])).at1 (str [])).alloc (Obj.cells #[str [], .slice none 0 0] 33)).two
    refine bodyPost_ret (v := .tuple #[.agg #[str [], str []], .int .i64 13]) (by simp [results, Tryd.results26, go_sem, r0, r1]) rfl ?_
    exact ⟨by rw [HI.out], box2 (set2 (set2 (via hb1) (Nat.le_refl _) _) (Nat.le_refl _) _) _⟩
  | some p =>
    have hps : p.imps.length ≤ 1000000000 := hs p (List.mem_of_find?_eq_some hf)
    by_cases hn1 : nm.length < 1 ∨ 40 < nm.length
    · have HI : Hid (internP l cur nm = (⟨[], []⟩, 3)) := by show _ = _; unfold internP; simp only [hf, if_pos hn1]
      rw [hf] at HF
      clear hf hs
      rcases hn1 with hn1 | hn1
      all_goals
        go_enter Tryd.func26, Tryd.ntmps26
        go_wp2_with fail
        refine (HF.out _ (box _ _)).mono ?_
        rintro e w1 ⟨⟨A2, n2, c2, rfl, hr⟩, hb1⟩
        have HB := Lib.hid (BlkIs.via hb1)
        obtain ⟨c0, c1, f0, f1, hlt⟩ := HB.out.two
        go_wp2
        obtain ⟨r0, r1, _⟩ := ((((HB.out).at0 (str [])).at1 (str [])).alloc (Obj.cells #[str p.name, .slice A2 n2 c2] 33)).two
        refine bodyPost_ret (v := .tuple #[.agg #[str [], str []], .int .i64 3]) (by simp [results, Tryd.results26, go_sem, r0, r1]) rfl ?_
        exact ⟨by rw [HI.out], box2 (set2 (set2 (via hb1) (Nat.le_refl _) _) (Nat.le_refl _) _) _⟩
    · have HI : Hid (internP l cur nm = match findS p.imps nm with | some s => (s, 0) | none => (⟨cur, nm⟩, 0)) := by show _ = _; unfold internP; simp only [hf, if_neg hn1]
      rw [hf] at HF
      clear hf hs
      have g1 : ¬ nm.length < 1 := by omega
      have g2 : ¬ 40 < nm.length := by omega
      clear hn1
      go_enter Tryd.func26, Tryd.ntmps26
      go_wp2_with fail
      refine (HF.out _ (box _ _)).mono ?_
      rintro e w1 ⟨⟨A2, n2, c2, rfl, hr⟩, hb1⟩
      have HB := Lib.hid (BlkIs.via hb1)
      obtain ⟨c0, c1, f0, f1, hlt⟩ := HB.out.two
      go_wp2
      have HLp := Lib.hid hr.len
      rw [List.length_map] at HLp
      have hn2 : n2 ≤ 1000000000 := by rw [← HLp.out]; exact hps
      clear hps
      go_loopw [10] (fun ix wr => ∃ k : Nat, k ≤ n2 ∧ ix = .int .i64 k ∧ Hid (findS (p.imps.drop k) nm = findS p.imps nm) ∧ Below (w.alloc (.cells #[str [], str []] 23)).heap.size (w.alloc (.cells #[str [], str []] 23)) wr ∧ Hid (BlkIs wr w1.heap.size 33 #[str p.name, .slice A2 n2 c2])) (fun ix _ => n2 - (intOf ix).toNat)
      case atStart => exact ⟨0, Nat.zero_le _, rfl, Lib.hid rfl, box2 hb1 _, Lib.hid (BlkIs.new w1 _ _)⟩
      case round =>
        obtain ⟨k, hk, rfl, HK, hb, HP⟩ := hrel
        have HB2 := Lib.hid (BlkIs.via hb)
        obtain ⟨d0, d1, g0, g3, hlt2⟩ := HB2.out.two
        obtain ⟨q0, q1, _, _, hlt3⟩ := HP.out.two
        by_cases hkn : k < n2
        · obtain ⟨b, o, hkl, rfl, hbl, hok, h0, h1⟩ := hr.syms hb hkn
          have hbl' := Nat.lt_of_lt_of_le hbl hb.size
          cases hmm : ((p.imps[k]).name == nm) with
          | false =>
            have HS := Lib.hid (findS_step hkl hmm)
            go_wp2
            go_roundw
            case rel => exact ⟨k + 1, by omega, by go_num, Lib.hid (HS.out.trans HK.out), hb, HP⟩
            case measure => simp only [intOf]; omega
          | true =>
            have HH := Lib.hid (HK.out.symm.trans (findS_hit hkl hmm))
            go_wp2
            obtain ⟨r0, r1, _⟩ := ((((HB2.out).at0 (str (p.imps[k]).pkg)).at1 (str (p.imps[k]).name))).two
            refine bodyPost_ret (v := .tuple #[.agg #[str (p.imps[k]).pkg, str (p.imps[k]).name], .int .i64 0]) (by simp [results, Tryd.results26, go_sem, r0, r1]) rfl ?_
            exact ⟨by rw [HI.out, HH.out], set2 (set2 (via hb) (Nat.le_refl _) _) (Nat.le_refl _) _⟩
        · have HM := Lib.hid (HK.out.symm.trans (findS_none (nm := nm) (l := p.imps) (k := k) (by rw [HLp.out]; omega)))
          go_wp2
          obtain ⟨r0, r1, _⟩ := ((((HB2.out).at0 (str cur)).at1 (str nm))).two
          refine bodyPost_ret (v := .tuple #[.agg #[str cur, str nm], .int .i64 0]) (by simp [results, Tryd.results26, go_sem, r0, r1]) rfl ?_
          exact ⟨by rw [HI.out, HM.out], set2 (set2 (via hb) (Nat.le_refl _) _) (Nat.le_refl _) _⟩
end Go.Proofs.YtjefhgmnjfclaabDoor
