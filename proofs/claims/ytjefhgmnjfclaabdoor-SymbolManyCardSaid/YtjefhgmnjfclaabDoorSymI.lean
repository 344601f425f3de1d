/- lispproverlaw4: samePackages, few, made. -/
import Derived.Test.YtjefhgmnjfclaabDoorSymH
namespace Go.Proofs.YtjefhgmnjfclaabDoor
open Go.RowKit

theorem Sy.ext_enc {l l' : List Sy} (h : l = l') : l.map Sy.enc = l'.map Sy.enc := by rw [h]

set_option maxHeartbeats 2000000 in
set_option maxRecDepth 100000 in
theorem same_packages (ok ok' : Nat → Prop) (l : List Pk) (A A' : Option Addr) (n n' c c' : Nat) (w : World) (ha : PkOk ok w A n c l) (hb : PkOk ok' w A' n' c' l) :
    Calls Tryd.prog 14 #[.slice A n c, .slice A' n' c'] w (RetBel (.bool true) w) := by
  have hnn : n' = n := by rw [← ha.rd.len, ← hb.rd.len]
  subst hnn
  have hn := ha.n
  have HL := Lib.hid ha.rd.len
  rw [List.length_map] at HL
  go_enter Tryd.func14, Tryd.ntmps14
  go_wp2
  go_loopw [5] (fun ix wr => ∃ k q : Nat, k ≤ n' ∧ ix = .int .i64 k ∧ wr = w.drewN q) (fun ix _ => n' - (intOf ix).toNat)
  case atStart => exact ⟨0, 0, Nat.zero_le _, rfl, rfl⟩
  case round =>
    obtain ⟨k, q, hk, rfl, rfl⟩ := hrel
    have hbq := below_dN (Below.refl _ w) q
    by_cases hkn : k < n'
    · obtain ⟨b, o, hkl, A2, n2, c2, rfl, hbl, _, e0, e1, hr⟩ := ha.rd.pkgs (Below.refl _ w) hkn
      obtain ⟨b', o', _, A3, n3, c3, rfl, hbl', _, e2, e3, hr'⟩ := hb.rd.pkgs (Below.refl _ w) hkn
      have h32 : n3 = n2 := by rw [← hr.len, ← hr'.len]
      subst h32
      have hi1 : (0 : Int) ≤ (k : Int) := by omega
      have hi2 : (k : Int) < n' := by omega
      have hn3 : n3 ≤ 1000000000 := by have h1 := hr.len; rw [List.length_map] at h1; rw [← h1]; exact ha.imps _ (List.getElem_mem hkl)
      have F : Hid (∀ q : Nat, (w.drewN q).cell? ⟨b, o + k * 2, none⟩ = some (str (l[k]).name) ∧ (w.drewN q).cell? ⟨b, o + k * 2 + 1, none⟩ = some (.slice A2 n3 c2) ∧ (w.drewN q).cell? ⟨b', o' + k * 2, none⟩ = some (str (l[k]).name) ∧ (w.drewN q).cell? ⟨b', o' + k * 2 + 1, none⟩ = some (.slice A3 n3 c3) ∧ b < (w.drewN q).heap.size ∧ b' < (w.drewN q).heap.size) := fun _ => ⟨e0, e1, e2, e3, hbl, hbl'⟩
      clear e0 e1 e2 e3 hbl hbl'
      obtain ⟨e0, e1, e2, e3, hbl2, hbl3⟩ := F.out q
      generalize hwq : w.drewN q = wq at *
      have HWQ := Lib.hid hwq
      clear hwq
      go_upto_region 6 with (fail)
      go_quiet (fail)
      go_wp2
      clear e0 e1 e2 e3 hbl2 hbl3
      go_loopw [6] (fun jx wr => ∃ j q2 : Nat, j ≤ n3 ∧ jx = .int .i64 j ∧ wr = w.drewN q2) (fun jx _ => n3 - (intOf jx).toNat)
      case atStart => exact ⟨0, _, Nat.zero_le _, rfl, by rw [← HWQ.out]; exact World.drewN_drewN _ _ _⟩
      case round =>
        obtain ⟨j, q2, hj, rfl, rfl⟩ := hrel
        have hbq2 := below_dN (Below.refl _ w) q2
        obtain ⟨e0, e1, e2, e3, hbl2, hbl3⟩ := F.out q2
        by_cases hjn : j < n3
        · obtain ⟨d, p, hjl, rfl, hdl, _, g0, g1⟩ := hr.syms hbq2 hjn
          obtain ⟨d', p', _, rfl, hdl', _, g2, g3⟩ := hr'.syms hbq2 hjn
          have hj1 : (0 : Int) ≤ (j : Int) := by omega
          have hj2 : (j : Int) < n3 := by omega
          have hd2 : d < (w.drewN q2).heap.size := Nat.lt_of_lt_of_le hdl hbq2.size
          have hd3 : d' < (w.drewN q2).heap.size := Nat.lt_of_lt_of_le hdl' hbq2.size
          generalize hwq : w.drewN q2 = wz at *
          have HWZ := Lib.hid hwq
          clear hwq
          go_upto_region 11 with (fail)
          go_quiet (fail)
          go_wp2
          go_roundw
          case rel => exact ⟨j + 1, _, by omega, by go_num, by rw [← HWZ.out]; exact World.drewN_drewN _ _ _⟩
          case measure => simp only [intOf]; omega
        · go_wp2
          go_roundw
          case rel => exact ⟨k + 1, q2, by omega, by go_num, rfl⟩
          case measure => simp only [intOf]; omega
    · go_wp2
      go_ret
      exact ⟨rfl, hbq⟩
def fewP (l : List Pk) : Bool := decide (l.length ≤ 5) && l.all fun p => decide (p.imps.length ≤ 6)
set_option maxHeartbeats 2000000 in
theorem few_any (ok : Nat → Prop) (l : List Pk) (A : Option Addr) (n c : Nat) (w : World) (ha : Rd ok w (.slice A n c) (.row (l.map Pk.enc))) (hn : n ≤ 9223372036854775807) :
    Calls Tryd.prog 17 #[.slice A n c] w (RetBel (.bool (fewP l)) w) := by
  have HL := Lib.hid ha.len
  rw [List.length_map] at HL
  by_cases h5 : 5 < n
  · have HR : Hid (fewP l = false) := by show _ = _; unfold fewP; rw [decide_eq_false (by rw [HL.out]; omega)]; rfl
    go_enter Tryd.func17, Tryd.ntmps17
    go_wp2
    go_ret
    exact ⟨by rw [HR.out]; rfl, Below.refl _ _⟩
  · have HR : Hid (fewP l = l.all fun p => decide (p.imps.length ≤ 6)) := by show _ = _; unfold fewP; rw [decide_eq_true (by rw [HL.out]; omega)]; rfl
    go_enter Tryd.func17, Tryd.ntmps17
    go_wp2
    go_loop [3] (fun ix => ∃ k : Nat, k ≤ n ∧ ix = .int .i64 k ∧ Hid ((l.drop k).all (fun p => decide (p.imps.length ≤ 6)) = l.all fun p => decide (p.imps.length ≤ 6))) (fun ix => n - (intOf ix).toNat)
    case atStart => exact ⟨0, Nat.zero_le _, rfl, Lib.hid rfl⟩
    case round =>
      obtain ⟨k, hk, rfl, HK⟩ := hrel
      by_cases hkn : k < n
      · obtain ⟨b, o, hkl, A2, n2, c2, rfl, hbl, _, e0, e1, hr⟩ := ha.pkgs (Below.refl _ w) hkn
        have h2 := hr.len
        rw [List.length_map] at h2
        have HD : Hid ((l.drop k).all (fun p => decide (p.imps.length ≤ 6)) = (decide (n2 ≤ 6) && (l.drop (k + 1)).all fun p => decide (p.imps.length ≤ 6))) := by
          show _ = _
          rw [List.drop_eq_getElem_cons hkl, List.all_cons, h2]
        clear h2
        by_cases h6 : 6 < n2
        · have HF : Hid (fewP l = false) := by show _ = _; rw [HR.out, ← HK.out, HD.out, decide_eq_false (by omega)]; rfl
          go_wp2
          go_ret
          exact ⟨by rw [HF.out]; rfl, Below.refl _ _⟩
        · go_wp2
          go_round
          case rel => exact ⟨k + 1, by omega, by go_num, Lib.hid (by rw [← HK.out, HD.out, decide_eq_true (by omega)]; rfl)⟩
          case measure => simp only [intOf]; omega
      · have HF : Hid (fewP l = true) := by show _ = _; rw [HR.out, ← HK.out, List.drop_of_length_le (by rw [HL.out]; omega)]; rfl
        go_wp2
        go_ret
        exact ⟨by rw [HF.out]; rfl, Below.refl _ _⟩

/-! ### made -/
def madeStep (out : List Pk) (p : Pk) : List Pk := if (defineP out p).2 = 0 then (defineP out p).1 else out
def madeP (l : List Pk) : List Pk := l.foldl madeStep [lispPk]
theorem madeP_take {l : List Pk} {k : Nat} (hk : k < l.length) : madeP (l.take (k + 1)) = madeStep (madeP (l.take k)) l[k] := by
  unfold madeP
  rw [List.take_succ_eq_append_getElem hk, List.foldl_append]; rfl
theorem firstBad_zero_of {l : List Pk} {p : Pk} (h : (defineP l p).2 = 0) : (defineP l p).1 = l ++ [p] := by
  unfold defineP at h ⊢
  by_cases h1 : pkgOk p.name = false
  · rw [if_pos h1] at h; cases h
  · rw [if_neg h1] at h ⊢
    by_cases h2 : (findP l p.name).isSome = true
    · rw [if_pos h2] at h; cases h
    · rw [if_neg h2] at h ⊢
      by_cases h3 : 200 < p.imps.length
      · rw [if_pos h3] at h; cases h
      · rw [if_neg h3] at h ⊢
        by_cases h4 : firstBad l p.imps 0 p.imps = 0
        · rw [if_pos h4]
        · rw [if_neg h4] at h; exact absurd h h4
theorem PkOk.mono {ok ok' : Nat → Prop} {w : World} {A : Option Addr} {n c : Nat} {l : List Pk} (h : PkOk ok w A n c l) (hk : ∀ b, ok b → b < w.heap.size → ok' b) : PkOk ok' w A n c l := ⟨h.rd.mono hk, h.n, h.imps⟩
theorem PkOk.len {ok : Nat → Prop} {w : World} {A : Option Addr} {n c : Nat} {l : List Pk} (h : PkOk ok w A n c l) : l.length = n := by have := h.rd.len; rwa [List.length_map] at this
structure PksIn (ok : Nat → Prop) (w : World) (A : Option Addr) (n c : Nat) (l : List Pk) : Prop where
  rd : Rd ok w (.slice A n c) (.row (l.map Pk.enc))
  names : ∀ p ∈ l, p.name.length ≤ 9223372036854775807 ∧ ∀ s ∈ p.imps, SyOk s
set_option maxHeartbeats 2000000 in
theorem made_any (ok : Nat → Prop) (l : List Pk) (A : Option Addr) (n c : Nat) (w : World) (ha : PksIn ok w A n c l) (hn : n ≤ 5) (hi : ∀ p ∈ l, p.imps.length ≤ 6) :
    Calls Tryd.prog 18 #[.slice A n c] w (RetPks ok (madeP l) w) := by
  have HL := Lib.hid ha.rd.len
  rw [List.length_map] at HL
  go_enter Tryd.func18, Tryd.ntmps18
  go_wp2_with fail
  refine (refInitial_any _).mono ?_
  rintro e w1 ⟨A1, n1, c1, rfl, h1, hb1⟩
  go_wp2
  go_loopw [3, 4] (fun out ix wr => ∃ (k n2 c2 : Nat) (A2 : Option Addr), k ≤ n ∧ ix = .int .i64 k ∧ out = .slice A2 n2 c2 ∧ n2 ≤ k + 1 ∧ PkOk (fun b => ok b ∨ w.heap.size ≤ b) wr A2 n2 c2 (madeP (l.take k)) ∧ Below w.heap.size w wr) (fun _ ix _ => n - (intOf ix).toNat)
  case atStart => exact ⟨0, n1, c1, A1, Nat.zero_le _, rfl, rfl, by rw [← h1.len]; exact Nat.le_refl _, h1.mono (fun b h _ => .inr (h.elim False.elim id)), hb1⟩
  case round =>
    obtain ⟨k, n2, c2, A2, hk, rfl, rfl, hn2, hout, hb⟩ := hrel
    by_cases hkn : k < n
    · obtain ⟨b, o, hkl, A3, n3, c3, rfl, hbl, _, e0, e1, hr⟩ := ha.rd.pkgs hb hkn
      have hbl' := Nat.lt_of_lt_of_le hbl hb.size
      have h3 := hr.len
      rw [List.length_map] at h3
      have hn3 : n3 ≤ 6 := by rw [← h3]; exact hi _ (List.getElem_mem hkl)
      have hnm := ha.names _ (List.getElem_mem hkl)
      have HD := Lib.hid (refDefine_any (fun b => ok b ∨ w.heap.size ≤ b) (madeP (l.take k)) l[k] A2 A3 n2 c2 n3 c3 wr hout ((hr.under hb).mono fun _ h _ => .inl h) (by omega) (by omega) hnm.1 hnm.2)
      have HM := Lib.hid (madeP_take hkl)
      clear h3 hnm
      by_cases he : (defineP (madeP (l.take k)) l[k]).2 = 0
      · have HE := Lib.hid (firstBad_zero_of he)
        have HM2 : Hid (madeP (l.take (k + 1)) = (defineP (madeP (l.take k)) l[k]).1) := by show _ = _; rw [HM.out]; unfold madeStep; rw [if_pos he]
        have hr0 : (defineP (madeP (l.take k)) l[k]).2 = 0 := he
        go_wp2_with fail
        refine HD.out.mono ?_
        rintro e w3 ⟨A4, n4, c4, rfl, h4, hb4⟩
        rw [hr0]
        have h4l := h4.len
        rw [HE.out, List.length_append, hout.len, List.length_singleton] at h4l
        clear hr0 he
        have HB4 := Lib.hid h4l
        have hn4 : n4 ≤ k + 1 + 1 := by rw [← h4l]; omega
        clear h4l
        go_wp2
        go_roundw
        case rel => exact ⟨k + 1, n4, c4, A4, by omega, by go_num, rfl, hn4, by rw [HM2.out]; exact h4.mono (fun b h _ => by rcases h with h | h; exact h; exact .inr (Nat.le_trans hb.size h)), then_ hb hb4⟩
        case measure => simp only [intOf]; omega
      · have HM2 : Hid (madeP (l.take (k + 1)) = madeP (l.take k)) := by show _ = _; rw [HM.out]; unfold madeStep; rw [if_neg he]
        have he' : ((defineP (madeP (l.take k)) l[k]).2 == 0) = false := by simpa using he
        go_wp2_with fail
        refine HD.out.mono ?_
        rintro e w3 ⟨A4, n4, c4, rfl, h4, hb4⟩
        generalize (defineP (madeP (l.take k)) l[k]).2 = er at *
        go_wp2
        go_roundw
        case rel => exact ⟨k + 1, n2, c2, A2, by omega, by go_num, rfl, by omega, by rw [HM2.out]; exact hout.under hb4, then_ hb hb4⟩
        case measure => simp only [intOf]; omega
    · have HF : Hid (madeP (l.take k) = madeP l) := by rw [List.take_of_length_le (by rw [HL.out]; omega)]; exact Lib.hid rfl
      go_wp2
      go_ret
      exact ⟨A2, n2, c2, rfl, by rw [← HF.out]; exact hout, hb⟩
end Go.Proofs.YtjefhgmnjfclaabDoor
