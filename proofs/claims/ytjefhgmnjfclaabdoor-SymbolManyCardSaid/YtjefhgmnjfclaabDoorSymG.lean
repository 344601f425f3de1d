/- Define: of package symbol and of the reference. -/
import Derived.Test.YtjefhgmnjfclaabDoorSymF
import Derived.Deep.RegionLaw
import Derived.Deep.DeepCutAuto
namespace Go.Proofs.YtjefhgmnjfclaabDoor
open Go.RowKit

def badAt (l : List Pk) (is : List Sy) (i : Nat) (s : Sy) : Int := if symOk s = false then 3 else if visP l s.pkg s = false then 13 else if (is.take i).any (fun x => x.name == s.name) = true then 4 else 0
def firstBad (l : List Pk) (is : List Sy) : Nat → List Sy → Int
  | _, [] => 0
  | i, s :: r => if badAt l is i s = 0 then firstBad l is (i + 1) r else badAt l is i s
def defineP (l : List Pk) (p : Pk) : List Pk × Int :=
  if pkgOk p.name = false then ([], 3) else if (findP l p.name).isSome = true then ([], 4) else if 200 < p.imps.length then ([], 2) else
  if firstBad l p.imps 0 p.imps = 0 then (l ++ [p], 0) else ([], firstBad l p.imps 0 p.imps)
def RetPksE (ok : Nat → Prop) (r : List Pk × Int) (w : World) (e : Ending) (w' : World) : Prop := ∃ A n c, e = .returned (.tuple #[.slice A n c, .int .i64 r.2]) ∧ PkOk (fun b => ok b ∨ w.heap.size ≤ b) w' A n c r.1 ∧ Below w.heap.size w w'
structure SyOk (s : Sy) : Prop where
  pkg : s.pkg.length ≤ 9223372036854775807
  name : s.name.length ≤ 9223372036854775807
theorem PkOk.empty (ok : Nat → Prop) (w : World) : PkOk ok w none 0 0 [] := ⟨.nil _ _, by omega, fun p hp => by cases hp⟩
theorem pk_src {OK : Nat → Prop} {W : World} {A7 A5 : Option Addr} {p : Pk} {ni c5 : Nat} (hr : Rd (fun b => OK b ∧ A7 ≠ some ⟨b, 0, none⟩) W (.slice A5 ni c5) (.row (p.imps.map Sy.enc))) :
    ∀ j (hj : j < p.enc.length), ∃ u, (#[str p.name, .slice A5 ni c5] : Array Value)[j]? = some u ∧ Rd (fun b => OK b ∧ A7 ≠ some ⟨b, 0, none⟩) W u p.enc[j] ∧ u.oneCell' = true := by
  intro j hj
  rcases j with _ | _ | j
  · exact ⟨_, rfl, .val _, rfl⟩
  · exact ⟨_, rfl, hr, rfl⟩
  · exact absurd hj (by simp [Pk.enc])
theorem defApp1 {ok ok6 : Nat → Prop} {w W6 w7 : World} {A5 A7 : Option Addr} {ni c5 n c7 base : Nat} {l : List Pk} {p : Pk} (hbw6 : Below w.heap.size w W6) (hb67 : Below W6.heap.size W6 w7) (hown7 : OwnD ok w7 base 33 2 A7 n c7 (l.map Pk.enc)) (hbase : W6.heap.size ≤ base)
    (hr6 : Rd ok6 W6 (.slice A5 ni c5) (.row (p.imps.map Sy.enc))) (hok6 : ∀ b, ok6 b → ok b ∨ w.heap.size ≤ b) :
    OwnD (fun b => ok b ∨ w.heap.size ≤ b) (w7.alloc (.cells #[str p.name, .slice A5 ni c5] 33)) W6.heap.size 33 2 A7 n c7 (l.map Pk.enc) ∧ Hid (0 < 1 → ∃ b o, (some ⟨w7.heap.size, 0, none⟩ : Option Addr) = some ⟨b, o, none⟩ ∧ ∀ i (hi : i < [p.enc].length), ([p.enc][i]).length = 2 ∧ ∀ j (hj : j < ([p.enc][i]).length), ∃ u, (w7.alloc (.cells #[str p.name, .slice A5 ni c5] 33)).cell? ⟨b, o + i * 2 + j, none⟩ = some u ∧ Rd (fun b => (ok b ∨ w.heap.size ≤ b) ∧ A7 ≠ some ⟨b, 0, none⟩) (w7.alloc (.cells #[str p.name, .slice A5 ni c5] 33)) u ([p.enc][i])[j] ∧ u.oneCell' = true) ∧ W6.heap.size ≤ (w7.alloc (.cells #[str p.name, .slice A5 ni c5] 33)).heap.size ∧ Below w.heap.size w (w7.alloc (.cells #[str p.name, .slice A5 ni c5] 33)) ∧ Hid (∀ g, A7 = some ⟨g, 0, none⟩ → w.heap.size ≤ g) := by
  have HFR : ∀ g, A7 = some ⟨g, 0, none⟩ → W6.heap.size ≤ g := fun g e => Nat.le_trans hbase (hown7.from_ g e)
  refine ⟨((hown7.mono (ok' := fun b => ok b ∨ w.heap.size ≤ b) fun _ h _ => .inl h).rebase hbase).alloc _, Lib.hid ?_, (box2 hb67 _).size, then_ hbw6 (box2 hb67 _), Lib.hid fun g e => Nat.le_trans hbw6.size (HFR g e)⟩
  exact src_blk (ok := fun b => ok b ∨ w.heap.size ≤ b) (A := A7) (BlkIs.new w7 33 #[str p.name, .slice A5 ni c5]) rfl (pk_src (hr6.avoid (box2 hb67 _) (fun b h _ => hok6 b h) HFR))
theorem defApp2 {ok ok6 : Nat → Prop} {w W6 w7 : World} {A5 A7 : Option Addr} {ni c5 n c7 base g0 : Nat} {l : List Pk} {p : Pk} (hbw6 : Below w.heap.size w W6) (hb67 : Below W6.heap.size W6 w7) (hown7 : OwnD ok w7 base 33 2 A7 n c7 (l.map Pk.enc)) (hbase : W6.heap.size ≤ base)
    (hr6 : Rd ok6 W6 (.slice A5 ni c5) (.row (p.imps.map Sy.enc))) (hok6 : ∀ b, ok6 b → ok b ∨ w.heap.size ≤ b) (hB : BlkIs w7 g0 33 #[str p.name, .slice A5 ni c5]) :
    OwnD (fun b => ok b ∨ w.heap.size ≤ b) w7 W6.heap.size 33 2 A7 n c7 (l.map Pk.enc) ∧ Hid (0 < 1 → ∃ b o, (some ⟨g0, 0, none⟩ : Option Addr) = some ⟨b, o, none⟩ ∧ ∀ i (hi : i < [p.enc].length), ([p.enc][i]).length = 2 ∧ ∀ j (hj : j < ([p.enc][i]).length), ∃ u, (w7).cell? ⟨b, o + i * 2 + j, none⟩ = some u ∧ Rd (fun b => (ok b ∨ w.heap.size ≤ b) ∧ A7 ≠ some ⟨b, 0, none⟩) (w7) u ([p.enc][i])[j] ∧ u.oneCell' = true) ∧ W6.heap.size ≤ w7.heap.size ∧ Below w.heap.size w w7 ∧ Hid (∀ g, A7 = some ⟨g, 0, none⟩ → w.heap.size ≤ g) := by
  have HFR : ∀ g, A7 = some ⟨g, 0, none⟩ → W6.heap.size ≤ g := fun g e => Nat.le_trans hbase (hown7.from_ g e)
  refine ⟨(hown7.mono (ok' := fun b => ok b ∨ w.heap.size ≤ b) fun _ h _ => .inl h).rebase hbase, Lib.hid ?_, hb67.size, then_ hbw6 hb67, Lib.hid fun g e => Nat.le_trans hbw6.size (HFR g e)⟩
  exact src_blk (ok := fun b => ok b ∨ w.heap.size ≤ b) (A := A7) hB rfl (pk_src (hr6.avoid hb67 (fun b h _ => hok6 b h) HFR))
theorem firstBad_step {l : List Pk} {is : List Sy} {k : Nat} (hk : k < is.length) (h : badAt l is k is[k] = 0) : firstBad l is k (is.drop k) = firstBad l is (k + 1) (is.drop (k + 1)) := by
  rw [List.drop_eq_getElem_cons hk, firstBad, if_pos h]
theorem firstBad_hit {l : List Pk} {is : List Sy} {k : Nat} {e : Int} (hk : k < is.length) (h : badAt l is k is[k] = e) (he : e ≠ 0) : firstBad l is k (is.drop k) = e := by
  rw [List.drop_eq_getElem_cons hk, firstBad, if_neg (by rw [h]; exact he), h]

set_option maxHeartbeats 4000000 in
set_option maxRecDepth 100000 in
theorem symDefine_any (ok : Nat → Prop) (l : List Pk) (p : Pk) (A Ai : Option Addr) (n c ni ci : Nat) (w : World) (hl : PkOk ok w A n c l) (hi : Rd ok w (.slice Ai ni ci) (.row (p.imps.map Sy.enc))) (hni : ni ≤ 1000000000) (hn1 : n + 1 ≤ 1000000000) (hnm : p.name.length ≤ 9223372036854775807) (hsy : ∀ s ∈ p.imps, SyOk s) :
    Calls Tryd.prog 19 #[.slice A n c, .agg #[str p.name, .slice Ai ni ci]] w (RetPksE ok (defineP l p) w) := by
  have HVP : Hid (∀ (w' : World) (b : Bool), pkgOk p.name = b → Calls Tryd.prog 10 #[str p.name] w' (RetBel (.bool b) w')) := fun w' b h => by have := symValidPackage_any p.name w' hnm; rwa [h] at this
  have HFi : Hid (∀ (w' : World) (r : Option Pk), Below w.heap.size w w' → findP l p.name = r → Calls Tryd.prog 21 #[.slice A n c, str p.name] w' (RetFind ok r w')) := fun w' r hb h => by have := symFind_any ok l p.name A n c w' (hl.rd.under hb) hl.n; rwa [h] at this
  have hl2 := hl.n
  have hcap := hi.cap
  have HLi := Lib.hid hi.len
  rw [List.length_map] at HLi
  cases hpk : pkgOk p.name with
  | false =>
    have HR : Hid (defineP l p = ([], 3)) := by show _ = _; unfold defineP; rw [if_pos hpk]
    have HPK := Lib.hid hpk
    clear hpk
    go_enter Tryd.func19, Tryd.ntmps19
    go_wp2_with fail
    refine (HVP.out _ _ HPK.out).mono ?_
    rintro e w1 ⟨rfl, hb1⟩
    go_wp2
    go_ret2
    exact ⟨none, 0, 0, by rw [HR.out]; rfl, by rw [HR.out]; exact PkOk.empty _ _, via hb1⟩
  | true =>
    have HPK := Lib.hid hpk
    cases hfi : findP l p.name with
    | some p0 =>
      have HR : Hid (defineP l p = ([], 4)) := by show _ = _; unfold defineP; rw [if_neg (by simp [hpk]), if_pos (by rw [hfi]; rfl)]
      have HFI := Lib.hid hfi
      clear hpk hfi
      go_enter Tryd.func19, Tryd.ntmps19
      go_wp2_with fail
      refine (HVP.out _ _ HPK.out).mono ?_
      rintro e w1 ⟨rfl, hb1⟩
      obtain ⟨c0, c1, f0, f1, hlt⟩ := (BlkIs.via hb1).two
      go_wp2_with fail
      refine (HFi.out _ _ (via hb1) HFI.out).mono ?_
      rintro e w2 ⟨⟨A2, n2, c2, rfl, _⟩, hb2⟩
      go_wp2
      go_ret2
      exact ⟨none, 0, 0, by rw [HR.out]; rfl, by rw [HR.out]; exact PkOk.empty _ _, box2 (then_ (via hb1) hb2) _⟩
    | none =>
      have HFI := Lib.hid hfi
      by_cases h200 : 200 < ni
      · have HR : Hid (defineP l p = ([], 2)) := by show _ = _; unfold defineP; rw [if_neg (by simp [hpk]), if_neg (by rw [hfi]; simp), if_pos (by rw [HLi.out]; exact h200)]
        clear hpk hfi
        go_enter Tryd.func19, Tryd.ntmps19
        go_wp2_with fail
        refine (HVP.out _ _ HPK.out).mono ?_
        rintro e w1 ⟨rfl, hb1⟩
        obtain ⟨c0, c1, f0, f1, hlt⟩ := (BlkIs.via hb1).two
        go_wp2_with fail
        refine (HFi.out _ _ (via hb1) HFI.out).mono ?_
        rintro e w2 ⟨rfl, hb2⟩
        obtain ⟨d0, d1, g0, g1, hlt2⟩ := ((BlkIs.via hb1).below hb2).two
        go_wp2
        go_ret2
        exact ⟨none, 0, 0, by rw [HR.out]; rfl, by rw [HR.out]; exact PkOk.empty _ _, box2 (then_ (via hb1) hb2) _⟩
      · have HR : Hid (defineP l p = if firstBad l p.imps 0 p.imps = 0 then (l ++ [p], 0) else ([], firstBad l p.imps 0 p.imps)) := by show _ = _; unfold defineP; rw [if_neg (by simp [hpk]), if_neg (by rw [hfi]; simp), if_neg (by rw [HLi.out]; exact h200)]
        clear hpk hfi
        go_enter Tryd.func19, Tryd.ntmps19
        go_wp2_with fail
        refine (HVP.out _ _ HPK.out).mono ?_
        rintro e w1 ⟨rfl, hb1⟩
        obtain ⟨c0, c1, f0, f1, hlt⟩ := (BlkIs.via hb1).two
        go_wp2_with fail
        refine (HFi.out _ _ (via hb1) HFI.out).mono ?_
        rintro e w2 ⟨rfl, hb2⟩
        have HB := Lib.hid ((BlkIs.via hb1).below hb2)
        obtain ⟨d0, d1, g0, g1, hlt2⟩ := HB.out.two
        have hb := then_ (via hb1) hb2
        clear c0 c1 f0 f1 hlt hb1 hb2 HFi HVP
        go_wp2
        go_loopw [30] (fun ix wr => ∃ k : Nat, k ≤ ni ∧ ix = .int .i64 k ∧ Hid (firstBad l p.imps k (p.imps.drop k) = firstBad l p.imps 0 p.imps) ∧ Hid (BlkIs wr w.heap.size 33 #[str p.name, .slice Ai ni ci]) ∧ Below w.heap.size w wr) (fun ix _ => ni - (intOf ix).toNat)
        case atStart => exact ⟨0, Nat.zero_le _, rfl, Lib.hid rfl, Lib.hid (HB.out.alloc _), box2 hb _⟩
        case round =>
          clear HB d0 d1 g0 g1 hlt2 hb
          obtain ⟨k, hk, rfl, HK, HB, hb⟩ := hrel
          obtain ⟨d0, d1, g0, g1, hlt2⟩ := HB.out.two
          by_cases hkn : k < ni
          · obtain ⟨b, o, hkl, rfl, hbl, hok, e0, e1⟩ := hi.syms hb hkn
            have hbl' := Nat.lt_of_lt_of_le hbl hb.size
            have hso := hsy _ (List.getElem_mem hkl)
            have HV : Hid (∀ (w' : World) (z : Bool), symOk p.imps[k] = z → Calls Tryd.prog 12 #[symAgg p.imps[k]] w' (RetBel (.bool z) w')) := fun w' z h => by have := symValid_any p.imps[k] w' hso.pkg hso.name; rwa [h] at this
            have HH : Hid (∀ (w' : World) (z : Bool), Below w.heap.size w w' → visP l p.imps[k].pkg p.imps[k] = z → Calls Tryd.prog 27 #[.slice A n c, symAgg p.imps[k]] w' (RetBel (.bool z) w')) := fun w' z hb h => by have := symHome_any ok l p.imps[k] A n c w' (hl.under hb) hso.name; rwa [h] at this
            have HC : Hid (∀ (w' : World) (z : Bool) (g : Nat), Below w.heap.size w w' → w'.cell? ⟨g, 0, none⟩ = some (str (p.imps[k]).pkg) → w'.cell? ⟨g, 1, none⟩ = some (str (p.imps[k]).name) → (p.imps.take k).any (fun x => x.name == (p.imps[k]).name) = z → Calls Tryd.prog 36 #[.slice (some ⟨b, o, none⟩) k ci, .func (.func 35) #[] #[.pointer (some ⟨g, 0, none⟩)]] w' (RetBel (.bool z) w')) := fun w' z g hb h0 h1 h => by
              have hr := (hi.under hb).take (m := k) (by omega)
              rw [← List.map_take] at hr
              have := containsSym_any ok (p.imps.take k) p.imps[k] g (some ⟨b, o, none⟩) k ci w' hr (by omega) h0 h1
              rwa [h] at this
            have HBA : Hid (badAt l p.imps k p.imps[k] = if symOk p.imps[k] = false then 3 else if visP l p.imps[k].pkg p.imps[k] = false then 13 else if (p.imps.take k).any (fun x => x.name == (p.imps[k]).name) = true then 4 else 0) := rfl
            clear hso
            cases h1 : symOk p.imps[k] with
            | false =>
              have HF : Hid (defineP l p = ([], 3)) := by
                have h := HK.out.symm.trans (firstBad_hit hkl (e := 3) (by rw [HBA.out, if_pos h1]) (by omega))
                show _ = _
                rw [HR.out, h, if_neg (by omega)]
              have H1 := Lib.hid h1
              clear h1 HBA
              go_wp2_with fail
              refine (HV.out _ _ H1.out).mono ?_
              rintro e w3 ⟨rfl, hb3⟩
              go_wp2
              go_ret2
              exact ⟨none, 0, 0, by rw [HF.out]; rfl, by rw [HF.out]; exact PkOk.empty _ _, via2 hb hb3⟩
            | true =>
              have H1 := Lib.hid h1
              cases h2 : visP l p.imps[k].pkg p.imps[k] with
              | false =>
                have HF : Hid (defineP l p = ([], 13)) := by
                  have h := HK.out.symm.trans (firstBad_hit hkl (e := 13) (by rw [HBA.out, if_neg (by simp [h1]), if_pos h2]) (by omega))
                  show _ = _
                  rw [HR.out, h, if_neg (by omega)]
                have H2 := Lib.hid h2
                clear h1 h2 HBA
                go_wp2_with fail
                refine (HV.out _ _ H1.out).mono ?_
                rintro e w3 ⟨rfl, hb3⟩
                obtain ⟨s0, s1, _, _, hs⟩ := (BlkIs.via hb3).two
                have hbw3 := via2 hb hb3
                go_wp2_with fail
                refine (HH.out _ _ hbw3 H2.out).mono ?_
                rintro e w4 ⟨rfl, hb4⟩
                go_wp2
                go_ret2
                exact ⟨none, 0, 0, by rw [HF.out]; rfl, by rw [HF.out]; exact PkOk.empty _ _, then_ hbw3 hb4⟩
              | true =>
                have H2 := Lib.hid h2
                cases h3 : (p.imps.take k).any (fun x => x.name == (p.imps[k]).name) with
                | true =>
                  have HF : Hid (defineP l p = ([], 4)) := by
                    have h := HK.out.symm.trans (firstBad_hit hkl (e := 4) (by rw [HBA.out, if_neg (by simp [h1]), if_neg (by simp [h2]), if_pos h3]) (by omega))
                    show _ = _
                    rw [HR.out, h, if_neg (by omega)]
                  have H3 := Lib.hid h3
                  clear h1 h2 h3 HBA
                  go_wp2_with fail
                  refine (HV.out _ _ H1.out).mono ?_
                  rintro e w3 ⟨rfl, hb3⟩
                  obtain ⟨s0, s1, _, _, hs⟩ := (BlkIs.via hb3).two
                  have hbw3 := via2 hb hb3
                  have HS3 := Lib.hid (BlkIs.via hb3)
                  have HB3 := Lib.hid ((HB.out.alloc _).below hb3)
                  go_wp2_with fail
                  refine (HH.out _ _ hbw3 H2.out).mono ?_
                  rintro e w4 ⟨rfl, hb4⟩
                  have hbw4 := then_ hbw3 hb4
                  obtain ⟨t0, t1, _, _, ht⟩ := (HS3.out.below hb4).two
                  obtain ⟨v0, v1, _, _, hv⟩ := (HB3.out.below hb4).two
                  have HCC := Lib.hid (HC.out w4 _ _ hbw4 t0 t1 H3.out)
                  go_wp2_with fail
                  refine HCC.out.mono ?_
                  rintro e w5 ⟨rfl, hb5⟩
                  go_wp2
                  go_ret2
                  exact ⟨none, 0, 0, by rw [HF.out]; rfl, by rw [HF.out]; exact PkOk.empty _ _, then_ hbw4 hb5⟩
                | false =>
                  have HS := Lib.hid (firstBad_step hkl (by rw [HBA.out, if_neg (by simp [h1]), if_neg (by simp [h2]), if_neg (by simp [h3])]))
                  have H3 := Lib.hid h3
                  clear h1 h2 h3 HBA
                  go_wp2_with fail
                  refine (HV.out _ _ H1.out).mono ?_
                  rintro e w3 ⟨rfl, hb3⟩
                  obtain ⟨s0, s1, _, _, hs⟩ := (BlkIs.via hb3).two
                  have hbw3 := via2 hb hb3
                  have HS3 := Lib.hid (BlkIs.via hb3)
                  have HB3 := Lib.hid ((HB.out.alloc _).below hb3)
                  go_wp2_with fail
                  refine (HH.out _ _ hbw3 H2.out).mono ?_
                  rintro e w4 ⟨rfl, hb4⟩
                  have hbw4 := then_ hbw3 hb4
                  obtain ⟨t0, t1, _, _, ht⟩ := (HS3.out.below hb4).two
                  obtain ⟨v0, v1, _, _, hv⟩ := (HB3.out.below hb4).two
                  have HCC := Lib.hid (HC.out w4 _ _ hbw4 t0 t1 H3.out)
                  go_wp2_with fail
                  refine HCC.out.mono ?_
                  rintro e w5 ⟨rfl, hb5⟩
                  go_wp2
                  go_roundw
                  case rel => exact ⟨k + 1, by omega, by go_num, Lib.hid (HS.out.symm.trans HK.out), Lib.hid ((HB3.out.below hb4).below hb5), then_ hbw4 hb5⟩
                  case measure => simp only [intOf]; omega
          · have HF0 : Hid (firstBad l p.imps 0 p.imps = 0) := by
              have h := HK.out
              rw [List.drop_of_length_le (by rw [HLi.out]; omega)] at h
              exact h.symm
            have HF : Hid (defineP l p = (l ++ [p], 0)) := by show _ = _; rw [HR.out, if_pos HF0.out]
            have HCl := Lib.hid (cloneSym_any (fun b => ok b ∧ b < w.heap.size) p.imps Ai ni ci wr (hi.lt.under hb) hni)
            go_wp2_with fail
            refine HCl.out.mono ?_
            rintro e w5 ⟨A5, c5, rfl, hown5, hb5⟩
            have hbw5 := then_ hb hb5
            have HB5 := Lib.hid (HB.out.below hb5)
            obtain ⟨p0, p1, q0, q1, hp5⟩ := HB5.out.two
            have hr5 := hown5.rd
            have HB6 := Lib.hid (HB5.out.at1 (.slice A5 ni c5))
            have hbw6 : Below w.heap.size w (w5.setCell ⟨w.heap.size, 1, none⟩ (.slice A5 ni c5)) := set2 hbw5 (Nat.le_refl _) _
            have hr6 := hr5.far (p := ⟨w.heap.size, 1, none⟩) (fun b h => by show b ≠ w.heap.size; have := hb.size; have := HB.out.lt; omega) (.slice A5 ni c5)
            go_upto_region 20 with (fail)
            generalize hW6 : w5.setCell ⟨w.heap.size, 1, none⟩ (.slice A5 ni c5) = W6 at *
            clear hW6
            have HCp : Hid (∀ W' : World, Below W6.heap.size W6 W' → Calls Tryd.prog 38 #[.slice A n c] W' (fun e w' => ∃ A2 c2, e = .returned (.slice A2 n c2) ∧ OwnD ok w' W'.heap.size 33 2 A2 n c2 (l.map Pk.enc) ∧ Below W'.heap.size W' w')) := fun W' h => clonePkg_any ok l A n c W' (hl.rd.under (then_ hbw6 h)) (by omega)
            clear HCl
            obtain ⟨m0, m1, _, _, hm6⟩ := HB6.out.two
            have hd1 : Below W6.heap.size W6 W6.drew := (Below.refl _ _).drew
            have hd2 : Below W6.heap.size W6 (W6.alloc (.cells #[str p.name, .slice A5 ni c5] 33)).drew := (box _ _).drew
            have HBn := Lib.hid (BlkIs.new W6 33 #[str p.name, .slice A5 ni c5])
            have HC1 := Lib.hid (HCp.out _ hd1)
            have HC2 := Lib.hid (HCp.out _ hd2)
            clear HCp
            have HOK6 : Hid (∀ b, ((ok b ∧ b < w.heap.size) ∨ wr.heap.size ≤ b) → ok b ∨ w.heap.size ≤ b) := fun b h => by
              rcases h with h | h
              · exact .inl h.1
              · exact .inr (Nat.le_trans hb.size h)
            go_region_law
              (first | (refine step_appD rfl _ _ _ rfl (fun b => ok b ∨ w.heap.size ≤ b) W6.heap.size 33 _ 2 40 Tryd.underlying28 infoPkg rfl (by omega) _ _ _ _ rfl HO _ 1 1 [p.enc] rfl rfl HSRC.out (by unfold maxLen; omega) (by omega) HSZ ?_; intro A8 c8 w8 hown8 hblk8 hsz8 hos8 htp8 hou8 _; have hbw8 := below_appD HBW HFR.out hblk8 hsz8 hos8 htp8 hou8; clear hblk8 hsz8 hos8 htp8 hou8) | (go_simp; go_at_call 38; ((with_reducible refine HC1.out.mono ?_)); rintro e w7 ⟨A7, c7, rfl, hown7, hb7⟩; have hb67 := then_ hd1 hb7; obtain ⟨k0, k1, _, _, k2⟩ := (HB6.out.below hb67).two; obtain ⟨HO, HSRC, HSZ, HBW, HFR⟩ := defApp1 hbw6 hb67 hown7 hd1.size hr6 HOK6.out) | (go_simp; go_at_call 38; ((with_reducible refine HC2.out.mono ?_)); rintro e w7 ⟨A7, c7, rfl, hown7, hb7⟩; have hb67 := then_ hd2 hb7; obtain ⟨HO, HSRC, HSZ, HBW, HFR⟩ := defApp2 hbw6 hb67 hown7 hd2.size hr6 HOK6.out (HBn.out.drew.below hb7)))
            all_goals (go_wp2_with fail)
            all_goals go_ret2
            all_goals
              rw [HF.out]
              refine ⟨A8, _, c8, rfl, ⟨?_, hn1, fun q hq => ?_⟩, hbw8⟩
              · rw [List.map_append]
                exact hown8.rd.mono fun b h _ => by
                  rcases h with h | h
                  · exact h
                  · exact .inr (Nat.le_trans hbw6.size h)
              · rcases List.mem_append.1 hq with h | h
                · exact hl.imps q h
                · obtain rfl := List.mem_singleton.1 h
                  rw [HLi.out]; exact hni
end Go.Proofs.YtjefhgmnjfclaabDoor
