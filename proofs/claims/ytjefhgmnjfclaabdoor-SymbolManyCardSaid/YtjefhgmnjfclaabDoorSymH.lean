/- lispproverref4.Define. -/
import Derived.Test.YtjefhgmnjfclaabDoorSymG
import Derived.Deep.QuietTactic
import Derived.BigQuiet
import Derived.IntWalk
namespace Go.Proofs.YtjefhgmnjfclaabDoor
open Go.RowKit

theorem pks_src {ok : Nat → Prop} {w W : World} {A : Option Addr} {n c g : Nat} {l : List Pk} (hl : Rd ok w (.slice A n c) (.row (l.map Pk.enc))) (hb : Below w.heap.size w W) (hg : w.heap.size ≤ g) :
    Hid (0 < n → ∃ b o, A = some ⟨b, o, none⟩ ∧ ∀ i (hi : i < (l.map Pk.enc).length), ((l.map Pk.enc)[i]).length = 2 ∧ ∀ j (hj : j < ((l.map Pk.enc)[i]).length), ∃ u, W.cell? ⟨b, o + i * 2 + j, none⟩ = some u ∧ Rd (fun b => (ok b ∨ w.heap.size ≤ b) ∧ (some ⟨g, 0, none⟩ : Option Addr) ≠ some ⟨b, 0, none⟩) W u ((l.map Pk.enc)[i])[j] ∧ u.oneCell' = true) :=
  (hl.lt.under hb).src (fun b h _ => ⟨.inl h.1, fun e => by injection e with e; injection e with e; have := h.2; omega⟩) (pkgs_one l)
theorem pk_src2 {ok : Nat → Prop} {w W : World} {A7 Ai : Option Addr} {ni ci g : Nat} {p : Pk} (hi : Rd ok w (.slice Ai ni ci) (.row (p.imps.map Sy.enc))) (hb : Below w.heap.size w W) (hA : ∀ g, A7 = some ⟨g, 0, none⟩ → w.heap.size ≤ g) (hB : BlkIs W g 33 #[str p.name, .slice Ai ni ci]) :
    Hid (0 < 1 → ∃ b o, (some ⟨g, 0, none⟩ : Option Addr) = some ⟨b, o, none⟩ ∧ ∀ i (hi : i < [p.enc].length), ([p.enc][i]).length = 2 ∧ ∀ j (hj : j < ([p.enc][i]).length), ∃ u, W.cell? ⟨b, o + i * 2 + j, none⟩ = some u ∧ Rd (fun b => (ok b ∨ w.heap.size ≤ b) ∧ A7 ≠ some ⟨b, 0, none⟩) W u ([p.enc][i])[j] ∧ u.oneCell' = true) :=
  src_blk (ok := fun b => ok b ∨ w.heap.size ≤ b) (A := A7) hB rfl (pk_src (hi.avoid hb (fun _ h _ => .inl h) hA))
theorem any_take_succ {l : List Sy} {nm : List UInt8} {k : Nat} (hk : k < l.length) : (l.take (k + 1)).any (fun x => x.name == nm) = ((l.take k).any (fun x => x.name == nm) || ((l[k]).name == nm)) := by
  rw [List.take_succ_eq_append_getElem hk, List.any_append]; simp
theorem any_take_hit {l : List Sy} {nm : List UInt8} {k i : Nat} (hk : k < i) (hl : i ≤ l.length) (h : ((l[k]'(by omega)).name == nm) = true) : (l.take i).any (fun x => x.name == nm) = true := by
  rw [List.any_eq_true]
  exact ⟨l[k]'(by omega), List.mem_take_iff_getElem.2 ⟨k, by omega, rfl⟩, h⟩

set_option maxHeartbeats 4000000 in
set_option maxRecDepth 100000 in
theorem refDefine_any (ok : Nat → Prop) (l : List Pk) (p : Pk) (A Ai : Option Addr) (n c ni ci : Nat) (w : World) (hl : PkOk ok w A n c l) (hi : Rd ok w (.slice Ai ni ci) (.row (p.imps.map Sy.enc))) (hni : ni ≤ 1000000000) (hn1 : n + 1 ≤ 1000000000) (hnm : p.name.length ≤ 9223372036854775807) (hsy : ∀ s ∈ p.imps, SyOk s) :
    Calls Tryd.prog 20 #[.slice A n c, .agg #[str p.name, .slice Ai ni ci]] w (RetPksE ok (defineP l p) w) := by
  have HVP : Hid (∀ (w' : World) (b : Bool), pkgOk p.name = b → Calls Tryd.prog 11 #[str p.name] w' (RetPureV (.bool b) w')) := fun w' b h => by have := ref4ValidPackage_any p.name w' hnm; rwa [h] at this
  have HFi : Hid (∀ (w' : World) (r : Option Pk), Below w.heap.size w w' → findP l p.name = r → Calls Tryd.prog 22 #[.slice A n c, str p.name] w' (RetFind ok r w')) := fun w' r hb h => by have := refFind_any ok l p.name A n c w' (hl.rd.under hb) hl.n; rwa [h] at this
  have hl2 := hl.n
  have hcap := hi.cap
  have HLi := Lib.hid hi.len
  rw [List.length_map] at HLi
  cases hpk : pkgOk p.name with
  | false =>
    have HR : Hid (defineP l p = ([], 3)) := by show _ = _; unfold defineP; rw [if_pos hpk]
    have HPK := Lib.hid hpk
    clear hpk
    go_enter Tryd.func20, Tryd.ntmps20
    go_wp2_with fail
    refine (HVP.out _ _ HPK.out).mono ?_
    rintro e w1 ⟨rfl, rfl⟩
    go_wp2
    go_ret2
    exact ⟨none, 0, 0, by rw [HR.out]; rfl, by rw [HR.out]; exact PkOk.empty _ _, box _ _⟩
  | true =>
    have HPK := Lib.hid hpk
    cases hfi : findP l p.name with
    | some p0 =>
      have HR : Hid (defineP l p = ([], 4)) := by show _ = _; unfold defineP; rw [if_neg (by simp [hpk]), if_pos (by rw [hfi]; rfl)]
      have HFI := Lib.hid hfi
      clear hpk hfi
      go_enter Tryd.func20, Tryd.ntmps20
      go_wp2_with fail
      refine (HVP.out _ _ HPK.out).mono ?_
      rintro e w1 ⟨rfl, rfl⟩
      go_wp2_with fail
      refine (HFi.out _ _ (box _ _) HFI.out).mono ?_
      rintro e w2 ⟨⟨A2, n2, c2, rfl, _⟩, hb2⟩
      go_wp2
      go_ret2
      exact ⟨none, 0, 0, by rw [HR.out]; rfl, by rw [HR.out]; exact PkOk.empty _ _, box2 (via hb2) _⟩
    | none =>
      have HFI := Lib.hid hfi
      by_cases h200 : 200 < ni
      · have HR : Hid (defineP l p = ([], 2)) := by show _ = _; unfold defineP; rw [if_neg (by simp [hpk]), if_neg (by rw [hfi]; simp), if_pos (by rw [HLi.out]; exact h200)]
        clear hpk hfi
        go_enter Tryd.func20, Tryd.ntmps20
        go_wp2_with fail
        refine (HVP.out _ _ HPK.out).mono ?_
        rintro e w1 ⟨rfl, rfl⟩
        go_wp2_with fail
        refine (HFi.out _ _ (box _ _) HFI.out).mono ?_
        rintro e w2 ⟨rfl, hb2⟩
        obtain ⟨d0, d1, g0, g1, hlt2⟩ := (BlkIs.via hb2).two
        go_wp2
        go_ret2
        exact ⟨none, 0, 0, by rw [HR.out]; rfl, by rw [HR.out]; exact PkOk.empty _ _, box2 (via hb2) _⟩
      · have HR : Hid (defineP l p = if firstBad l p.imps 0 p.imps = 0 then (l ++ [p], 0) else ([], firstBad l p.imps 0 p.imps)) := by show _ = _; unfold defineP; rw [if_neg (by simp [hpk]), if_neg (by rw [hfi]; simp), if_neg (by rw [HLi.out]; exact h200)]
        clear hpk hfi
        go_enter Tryd.func20, Tryd.ntmps20
        go_wp2_with fail
        refine (HVP.out _ _ HPK.out).mono ?_
        rintro e w1 ⟨rfl, rfl⟩
        go_wp2_with fail
        refine (HFi.out _ _ (box _ _) HFI.out).mono ?_
        rintro e w2 ⟨rfl, hb2⟩
        have HB := Lib.hid (BlkIs.via hb2)
        obtain ⟨d0, d1, g0, g1, hlt2⟩ := HB.out.two
        have hb := via hb2
        clear hb2 HFi HVP
        go_wp2
        go_loopw [8] (fun ix wr => ∃ k : Nat, k ≤ ni ∧ ix = .int .i64 k ∧ Hid (firstBad l p.imps k (p.imps.drop k) = firstBad l p.imps 0 p.imps) ∧ Hid (BlkIs wr w.heap.size 33 #[str p.name, .slice Ai ni ci]) ∧ Below w.heap.size w wr) (fun ix _ => ni - (intOf ix).toNat)
        case atStart => exact ⟨0, Nat.zero_le _, rfl, Lib.hid rfl, Lib.hid (HB.out.alloc _), box2 hb _⟩
        case round =>
          clear HB d0 d1 g0 g1 hlt2 hb
          obtain ⟨k, hk, rfl, HK, HB, hb⟩ := hrel
          obtain ⟨wo, rfl⟩ : ∃ wo : World, wo = wr := ⟨_, rfl⟩
          obtain ⟨d0, d1, g0, g1, hlt2⟩ := HB.out.two
          by_cases hkn : k < ni
          · obtain ⟨b, o, hkl, rfl, hbl, hok, e0, e1⟩ := hi.syms hb hkn
            have hbl' := Nat.lt_of_lt_of_le hbl hb.size
            have hso := hsy _ (List.getElem_mem hkl)
            have HV : Hid (∀ (w' : World) (z : Bool), symOk p.imps[k] = z → Calls Tryd.prog 13 #[symAgg p.imps[k]] w' (RetBel (.bool z) w')) := fun w' z h => by have := ref4Valid_any p.imps[k] w' hso.pkg hso.name; rwa [h] at this
            have HH : Hid (∀ (w' : World) (z : Bool), Below w.heap.size w w' → visP l p.imps[k].pkg p.imps[k] = z → Calls Tryd.prog 28 #[.slice A n c, symAgg p.imps[k]] w' (RetBel (.bool z) w')) := fun w' z hb h => by have := refHome_any ok l p.imps[k] A n c w' (hl.under hb) hso.name; rwa [h] at this
            have HBA : Hid (badAt l p.imps k p.imps[k] = if symOk p.imps[k] = false then 3 else if visP l p.imps[k].pkg p.imps[k] = false then 13 else if (p.imps.take k).any (fun x => x.name == (p.imps[k]).name) = true then 4 else 0) := rfl
            clear hso
            cases h1 : symOk p.imps[k] with
            | false =>
              have HF : Hid (defineP l p = ([], 3)) := by
                have h := HK.out.symm.trans (firstBad_hit hkl (e := 3) (by rw [HBA.out, if_pos h1]) (by omega))
                show _ = _
                rw [HR.out, h, if_neg (by omega)]
              have H1 := Lib.hid h1
              clear h1 HBA
              go_wp2_with fail
              refine (HV.out _ _ H1.out).mono ?_
              rintro e w3 ⟨rfl, hb3⟩
              go_wp2
              go_ret2
              exact ⟨none, 0, 0, by rw [HF.out]; rfl, by rw [HF.out]; exact PkOk.empty _ _, via2 hb hb3⟩
            | true =>
              have H1 := Lib.hid h1
              cases h2 : visP l p.imps[k].pkg p.imps[k] with
              | false =>
                have HF : Hid (defineP l p = ([], 13)) := by
                  have h := HK.out.symm.trans (firstBad_hit hkl (e := 13) (by rw [HBA.out, if_neg (by simp [h1]), if_pos h2]) (by omega))
                  show _ = _
                  rw [HR.out, h, if_neg (by omega)]
                have H2 := Lib.hid h2
                clear h1 h2 HBA
                go_wp2_with fail
                refine (HV.out _ _ H1.out).mono ?_
                rintro e w3 ⟨rfl, hb3⟩
                obtain ⟨s0, s1, _, _, hs⟩ := (BlkIs.via hb3).two
                have hbw3 := via2 hb hb3
                go_wp2_with fail
                refine (HH.out _ _ hbw3 H2.out).mono ?_
                rintro e w4 ⟨rfl, hb4⟩
                go_wp2
                go_ret2
                exact ⟨none, 0, 0, by rw [HF.out]; rfl, by rw [HF.out]; exact PkOk.empty _ _, then_ hbw3 hb4⟩
              | true =>
                have H2 := Lib.hid h2
                have HB3' : Hid (symOk p.imps[k] = true ∧ visP l p.imps[k].pkg p.imps[k] = true) := ⟨h1, h2⟩
                clear h1 h2
                go_wp2_with fail
                refine (HV.out _ _ H1.out).mono ?_
                rintro e w3 ⟨rfl, hb3⟩
                obtain ⟨s0, s1, _, _, hs⟩ := (BlkIs.via hb3).two
                have hbw3 := via2 hb hb3
                have HS3 := Lib.hid (BlkIs.via hb3)
                have HB3 := Lib.hid ((HB.out.alloc _).below hb3)
                go_wp2_with fail
                refine (HH.out _ _ hbw3 H2.out).mono ?_
                rintro e w4 ⟨rfl, hb4⟩
                have hbw4 := then_ hbw3 hb4
                have HS4 := Lib.hid (HS3.out.below hb4)
                have HB4 := Lib.hid (HB3.out.below hb4)
                have hsz4 : wo.heap.size < w4.heap.size := HS4.out.lt
                clear HS3 HB3 hb3 hb4 hbw3 s0 s1 hs
                obtain ⟨t0, t1, _, _, ht⟩ := HS4.out.two
                obtain ⟨v0, v1, _, _, hv⟩ := HB4.out.two
                go_wp2_with fail
                go_loopw [10] (fun jx wq => ∃ m q : Nat, m ≤ k ∧ jx = .int .i64 m ∧ wq = w4.drewN q ∧ Hid ((p.imps.take m).any (fun x => x.name == (p.imps[k]).name) = false)) (fun jx _ => k - (intOf jx).toNat)
                case atStart => exact ⟨0, 0, Nat.zero_le _, rfl, rfl, Lib.hid rfl⟩
                case round =>
                  obtain ⟨m, q, hm, rfl, rfl, HM⟩ := hrel
                  have hbq := below_dN hbw4 q
                  by_cases hmk : m < k
                  · obtain ⟨b', o', hml, eA, _, _, y0, y1⟩ := hi.syms hbq (i := m) (by omega)
                    injection eA with eA
                    injection eA with eb eo
                    subst eb eo
                    obtain ⟨z0, z1, _, _, hz⟩ := (HS4.out.drewN q).two
                    obtain ⟨x0, x1, _, _, hx⟩ := (HB4.out.drewN q).two
                    have hbl4 : b < (w4.drewN q).heap.size := Nat.lt_of_lt_of_le hbl hbq.size
                    have hi1 : (0 : Int) ≤ (m : Int) := by omega
                    have hi2 : (m : Int) < ni := by omega
                    have hi3 : m < ni := by omega
                    have HT := Lib.hid (any_take_succ (nm := (p.imps[k]).name) hml)
                    have HTH := fun (h : ((p.imps[m]).name == (p.imps[k]).name) = true) => Lib.hid (any_take_hit (l := p.imps) (nm := (p.imps[k]).name) (k := m) (i := k) hmk (by omega) h)
                    generalize hwq : w4.drewN q = wq at *
                    have HWQ := Lib.hid hwq
                    clear hwq
                    cases hnm : ((p.imps[m]).name == (p.imps[k]).name) with
                    | true =>
                      have H3 := HTH hnm
                      have HF : Hid (defineP l p = ([], 4)) := by
                        have h := HK.out.symm.trans (firstBad_hit hkl (e := 4) (by rw [HBA.out, if_neg (by simp [HB3'.out.1]), if_neg (by simp [HB3'.out.2]), if_pos H3.out]) (by omega))
                        show _ = _
                        rw [HR.out, h, if_neg (by omega)]
                      clear HTH HBA
                      go_upto_region 19 with (fail)
                      go_quiet (fail)
                      go_wp2
                      go_ret2
                      exact ⟨none, 0, 0, by rw [HF.out]; rfl, by rw [HF.out]; exact PkOk.empty _ _, below_dN hbq _⟩
                    | false =>
                      rw [hnm] at HT
                      clear HTH HBA
                      go_upto_region 19 with (fail)
                      go_quiet (fail)
                      go_wp2
                      go_roundw
                      case rel => exact ⟨m + 1, _, by omega, by go_num, by rw [← HWQ.out]; exact World.drewN_drewN _ _ _, Lib.hid (by rw [HT.out, HM.out]; rfl)⟩
                      case measure => simp only [intOf]; omega
                  · obtain rfl : m = k := by omega
                    have HS := Lib.hid (firstBad_step hkl (by rw [HBA.out, if_neg (by simp [HB3'.out.1]), if_neg (by simp [HB3'.out.2]), if_neg (by rw [HM.out]; simp)]))
                    clear HBA
                    go_wp2
                    go_roundw
                    case rel => exact ⟨m + 1, by omega, by go_num, Lib.hid (HS.out.symm.trans HK.out), Lib.hid (HB4.out.drewN q), hbq⟩
                    case measure => simp only [intOf]; omega
          · have HF0 : Hid (firstBad l p.imps 0 p.imps = 0) := by
              have h := HK.out
              rw [List.drop_of_length_le (by rw [HLi.out]; omega)] at h
              exact h.symm
            have HF : Hid (defineP l p = (l ++ [p], 0)) := by show _ = _; rw [HR.out, if_pos HF0.out]
            have HLl := Lib.hid hl.rd.len
            go_upto_region 21 with (fail)
            obtain ⟨CS, hcs, hmk⟩ := run_mk0D (P := Tryd.prog) 28 33 _ 2 40 Tryd.underlying28 infoPkg .i64 .i64 (IntKind.i64.wrap ((n : Int) + 1)) (n + 1) (IntWalk.i64_in _ (by omega)) (by omega) (by unfold maxLen; omega)
            have HCS := Lib.hid hcs
            clear hcs
            have v1 : Below w.heap.size w (wo.alloc (.cells CS 33)).drew := (box2 hb _).drew
            have v2 : Below w.heap.size w ((wo.alloc (.cells CS 33)).alloc (.cells #[str p.name, .slice Ai ni ci] 33)).drew := (box2 (box2 hb _) _).drew
            have v3 : Below w.heap.size w ((wo.alloc (.cells #[str p.name, .slice Ai ni ci] 33)).alloc (.cells CS 33)).drew := (box2 (box2 hb _) _).drew
            have hwo := hb.size
            have o1 : OwnD (fun b => ok b ∨ w.heap.size ≤ b) (wo.alloc (.cells CS 33)).drew w.heap.size 33 2 (some ⟨wo.heap.size, 0, none⟩) 0 (n + 1) [] := (OwnD.made _ wo w.heap.size _ 2 (n + 1) CS hb.size (by unfold maxLen; omega) HCS.out).drewN 1
            have o2 : OwnD (fun b => ok b ∨ w.heap.size ≤ b) ((wo.alloc (.cells CS 33)).alloc (.cells #[str p.name, .slice Ai ni ci] 33)).drew w.heap.size 33 2 (some ⟨wo.heap.size, 0, none⟩) 0 (n + 1) [] := ((OwnD.made _ wo w.heap.size _ 2 (n + 1) CS hb.size (by unfold maxLen; omega) HCS.out).alloc _).drewN 1
            have o3 : OwnD (fun b => ok b ∨ w.heap.size ≤ b) ((wo.alloc (.cells #[str p.name, .slice Ai ni ci] 33)).alloc (.cells CS 33)).drew w.heap.size 33 2 (some ⟨wo.heap.size + 1, 0, none⟩) 0 (n + 1) [] := by
              have := (OwnD.made (fun b => ok b ∨ w.heap.size ≤ b) (wo.alloc (.cells #[str p.name, .slice Ai ni ci] 33)) w.heap.size 33 2 (n + 1) CS (by rw [World.size_alloc]; omega) (by unfold maxLen; omega) HCS.out).drewN 1
              rw [World.size_alloc] at this
              exact this
            have S1 := pks_src (g := wo.heap.size) hl.rd v1 hwo
            have S2 := pks_src (g := wo.heap.size) hl.rd v2 hwo
            have S3 := pks_src (g := wo.heap.size + 1) hl.rd v3 (by omega)
            have P1 := Lib.hid ((HB.out.alloc (.cells CS 33)).drew)
            have P2 := Lib.hid (((HB.out.alloc (.cells CS 33)).alloc (.cells #[str p.name, .slice Ai ni ci] 33)).drew)
            have P3 := Lib.hid (((HB.out.alloc (.cells #[str p.name, .slice Ai ni ci] 33)).alloc (.cells CS 33)).drew)
            have X2 := Lib.hid ((BlkIs.new1 wo (.cells CS 33) 33 #[str p.name, .slice Ai ni ci]).drew)
            have X3 := Lib.hid (((BlkIs.new wo 33 #[str p.name, .slice Ai ni ci]).alloc (.cells CS 33)).drew)
            go_region_law
              (first | (refine step_appD rfl _ _ _ rfl (fun b => ok b ∨ w.heap.size ≤ b) w.heap.size 33 _ 2 40 Tryd.underlying28 infoPkg rfl (by omega) _ _ _ [] rfl o1 _ n c (l.map Pk.enc) rfl HLl.out S1.out (by unfold maxLen; omega) (by omega) v1.size ?_; intro A2 c2 w2 hown2 hblk2 hsz2 hos2 htp2 hou2 _; have hbw2 := below_appD v1 (fun g e => by injection e with e; injection e with e; omega) hblk2 hsz2 hos2 htp2 hou2; have HB2 := Lib.hid (P1.out.keep (hblk2 _ P1.out.lt (fun e => by injection e with e; injection e with e; omega))); clear hsz2 hos2 htp2 hou2; simp only [Nat.zero_add, List.nil_append] at hown2; obtain ⟨y0, y1, _, _, y2⟩ := HB2.out.two; have HFR := Lib.hid hown2.from_; clear hblk2) | (refine step_appD rfl _ _ _ rfl (fun b => ok b ∨ w.heap.size ≤ b) w.heap.size 33 _ 2 40 Tryd.underlying28 infoPkg rfl (by omega) _ _ _ [] rfl o2 _ n c (l.map Pk.enc) rfl HLl.out S2.out (by unfold maxLen; omega) (by omega) v2.size ?_; intro A2 c2 w2 hown2 hblk2 hsz2 hos2 htp2 hou2 _; have hbw2 := below_appD v2 (fun g e => by injection e with e; injection e with e; omega) hblk2 hsz2 hos2 htp2 hou2; have HB2 := Lib.hid (P2.out.keep (hblk2 _ P2.out.lt (fun e => by injection e with e; injection e with e; omega))); clear hsz2 hos2 htp2 hou2; simp only [Nat.zero_add, List.nil_append] at hown2; obtain ⟨y0, y1, _, _, y2⟩ := HB2.out.two; have HFR := Lib.hid hown2.from_; have HX2 := Lib.hid (X2.out.keep (hblk2 _ X2.out.lt (fun e => by injection e with e; injection e with e; omega))); clear hblk2) | (refine step_appD rfl _ _ _ rfl (fun b => ok b ∨ w.heap.size ≤ b) w.heap.size 33 _ 2 40 Tryd.underlying28 infoPkg rfl (by omega) _ _ _ [] rfl o3 _ n c (l.map Pk.enc) rfl HLl.out S3.out (by unfold maxLen; omega) (by omega) v3.size ?_; intro A2 c2 w2 hown2 hblk2 hsz2 hos2 htp2 hou2 _; have hbw2 := below_appD v3 (fun g e => by injection e with e; injection e with e; omega) hblk2 hsz2 hos2 htp2 hou2; have HB2 := Lib.hid (P3.out.keep (hblk2 _ P3.out.lt (fun e => by injection e with e; injection e with e; omega))); clear hsz2 hos2 htp2 hou2; simp only [Nat.zero_add, List.nil_append] at hown2; obtain ⟨y0, y1, _, _, y2⟩ := HB2.out.two; have HFR := Lib.hid hown2.from_; have HX2 := Lib.hid (X3.out.keep (hblk2 _ X3.out.lt (fun e => by injection e with e; injection e with e; omega))); clear hblk2) | (have HX3 := HX2; refine step_appD rfl _ _ _ rfl (fun b => ok b ∨ w.heap.size ≤ b) w.heap.size 33 _ 2 40 Tryd.underlying28 infoPkg rfl (by omega) _ _ _ (l.map Pk.enc) rfl hown2 _ 1 1 [p.enc] rfl rfl (pk_src2 hi hbw2 HFR.out HX3.out).out (by unfold maxLen; omega) (by omega) hbw2.size ?_; intro A8 c8 w8 hown8 hblk8 hsz8 hos8 htp8 hou8 _; have hbw8 := below_appD hbw2 HFR.out hblk8 hsz8 hos8 htp8 hou8; clear hblk8 hsz8 hos8 htp8 hou8) | (refine step_appD rfl _ _ _ rfl (fun b => ok b ∨ w.heap.size ≤ b) w.heap.size 33 _ 2 40 Tryd.underlying28 infoPkg rfl (by omega) _ _ _ (l.map Pk.enc) rfl (hown2.alloc (.cells #[str p.name, .slice Ai ni ci] 33)) _ 1 1 [p.enc] rfl rfl (pk_src2 hi (box2 hbw2 (.cells #[str p.name, .slice Ai ni ci] 33)) HFR.out (BlkIs.new w2 33 #[str p.name, .slice Ai ni ci])).out (by unfold maxLen; omega) (by omega) (box2 hbw2 (.cells #[str p.name, .slice Ai ni ci] 33)).size ?_; intro A8 c8 w8 hown8 hblk8 hsz8 hos8 htp8 hou8 _; have hbw8 := below_appD (box2 hbw2 (.cells #[str p.name, .slice Ai ni ci] 33)) HFR.out hblk8 hsz8 hos8 htp8 hou8; clear hblk8 hsz8 hos8 htp8 hou8))
            all_goals (go_wp2_with fail)
            all_goals go_ret2
            all_goals
              rw [HF.out]
              refine ⟨A8, _, c8, rfl, ⟨?_, hn1, fun q hq => ?_⟩, hbw8⟩
              · rw [List.map_append]
                exact hown8.rd.mono fun b h _ => by
                  rcases h with h | h
                  · exact h
                  · exact .inr h
              · rcases List.mem_append.1 hq with h | h
                · exact hl.imps q h
                · obtain rfl := List.mem_singleton.1 h
                  rw [HLi.out]; exact hni
end Go.Proofs.YtjefhgmnjfclaabDoor
