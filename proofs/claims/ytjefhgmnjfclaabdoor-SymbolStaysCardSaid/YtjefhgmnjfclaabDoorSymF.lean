/- slices.Clone and slices.ContainsFunc as symbol.Define calls them. -/
import Derived.Test.YtjefhgmnjfclaabDoorSymE
namespace Go.Proofs.YtjefhgmnjfclaabDoor
open Go.RowKit

theorem infoSym : (Tryd.prog.info? 23).map (fun i => (i.zero, i.size, i.bytes)) = some (some (.agg #[str [], str []]), 2, 32) := by kernel_rfl
theorem infoPkg : (Tryd.prog.info? 33).map (fun i => (i.zero, i.size, i.bytes)) = some (some (.agg #[str [], .slice none 0 0]), 2, 40) := by kernel_rfl
theorem syms_one (l : List Sy) : ∀ x ∈ l.map Sy.enc, x.length = 2 ∧ ∀ d ∈ x, d.one = true := by
  intro x hx
  obtain ⟨s, _, rfl⟩ := List.mem_map.1 hx
  refine ⟨rfl, fun d hd => ?_⟩
  simp only [Sy.enc, List.mem_cons, List.not_mem_nil, or_false] at hd
  rcases hd with rfl | rfl <;> rfl
theorem pkgs_one (l : List Pk) : ∀ x ∈ l.map Pk.enc, x.length = 2 ∧ ∀ d ∈ x, d.one = true := by
  intro x hx
  obtain ⟨s, _, rfl⟩ := List.mem_map.1 hx
  refine ⟨rfl, fun d hd => ?_⟩
  simp only [Pk.enc, List.mem_cons, List.not_mem_nil, or_false] at hd
  rcases hd with rfl | rfl <;> rfl

set_option maxHeartbeats 1000000 in
set_option maxRecDepth 100000 in
theorem cloneSym_any (ok : Nat → Prop) (l : List Sy) (A : Option Addr) (n c : Nat) (w : World) (hl : Rd ok w (.slice A n c) (.row (l.map Sy.enc))) (hn : n ≤ 1000000000) :
    Calls Tryd.prog 37 #[.slice A n c] w (fun e w' => ∃ A2 c2, e = .returned (.slice A2 n c2) ∧ OwnD ok w' w.heap.size 23 2 A2 n c2 (l.map Sy.enc) ∧ Below w.heap.size w w') := by
  have q := fun (w : World) (a : Option Addr) (n c n' c' : Nat) => Lib.run_eql_slice_nil (P := Tryd.prog) w _ _ a n c n' c' Tryd.underlying31
  rcases A with _ | ad
  · obtain rfl : n = 0 := by
      rcases Nat.eq_zero_or_pos n with h | h
      · exact h
      · obtain ⟨_, _, _, e, _⟩ := hl.cells h; cases e
    obtain rfl : l = [] := by have := hl.len; rw [List.length_map] at this; exact List.eq_nil_of_length_eq_zero this
    go_enter Tryd.func37, Tryd.ntmps37
    go_wp2
    go_ret
    exact ⟨none, 0, rfl, OwnD.nil _ _ _ _ _, Below.refl _ _⟩
  · have HL := Lib.hid hl.len
    have hm := OwnD.made (fun b => ok b ∧ b < w.heap.size) w w.heap.size 23 2 0 #[] (Nat.le_refl _) (by unfold maxLen; omega) rfl
    have hs := (hl.alloc (.cells #[] 23)).lt
    have HS := Lib.hid ((hl.lt.alloc (.cells #[] 23)).src (k := 2) (ok := fun b => ok b ∧ b < w.heap.size) (A := some ⟨w.heap.size, 0, none⟩) (fun b hb _ => ⟨hb, fun e => by injection e with e; injection e with e; have := hb.2; omega⟩) (syms_one l))
    go_enter Tryd.func37, Tryd.ntmps37
    go_wp2_with (at_builtin; refine wpList_appD rfl _ _ _ rfl (fun b => ok b ∧ b < w.heap.size) w.heap.size 23 _ 2 32 Tryd.underlying31 infoSym rfl (by omega) _ _ _ [] rfl hm _ n c (l.map Sy.enc) rfl HL.out HS.out (by unfold maxLen; omega) (by omega) (by simp) ?_; intro A2 c2 w2 hown2 hblk hsz hos htp hou _)
    go_ret
    refine ⟨A2, c2, ?_, ?_, ?_⟩
    · rfl
    · rw [List.nil_append, Nat.zero_add] at hown2
      exact hown2.mono fun b hb _ => hb.1
    · refine ⟨hos, htp, hou, by simp at hsz; omega, fun g hg => ?_⟩
      rw [hblk g (by simp; omega) (fun e => by injection e with e; injection e with e; omega)]
      exact Below.heap_alloc w _ g hg
set_option maxHeartbeats 1000000 in
set_option maxRecDepth 100000 in
theorem clonePkg_any (ok : Nat → Prop) (l : List Pk) (A : Option Addr) (n c : Nat) (w : World) (hl : Rd ok w (.slice A n c) (.row (l.map Pk.enc))) (hn : n ≤ 1000000000) :
    Calls Tryd.prog 38 #[.slice A n c] w (fun e w' => ∃ A2 c2, e = .returned (.slice A2 n c2) ∧ OwnD ok w' w.heap.size 33 2 A2 n c2 (l.map Pk.enc) ∧ Below w.heap.size w w') := by
  have q := fun (w : World) (a : Option Addr) (n c n' c' : Nat) => Lib.run_eql_slice_nil (P := Tryd.prog) w _ _ a n c n' c' Tryd.underlying28
  rcases A with _ | ad
  · obtain rfl : n = 0 := by
      rcases Nat.eq_zero_or_pos n with h | h
      · exact h
      · obtain ⟨_, _, _, e, _⟩ := hl.cells h; cases e
    obtain rfl : l = [] := by have := hl.len; rw [List.length_map] at this; exact List.eq_nil_of_length_eq_zero this
    go_enter Tryd.func38, Tryd.ntmps38
    go_wp2
    go_ret
    exact ⟨none, 0, rfl, OwnD.nil _ _ _ _ _, Below.refl _ _⟩
  · have HL := Lib.hid hl.len
    have hm := OwnD.made (fun b => ok b ∧ b < w.heap.size) w w.heap.size 33 2 0 #[] (Nat.le_refl _) (by unfold maxLen; omega) rfl
    have hs := (hl.alloc (.cells #[] 33)).lt
    have HS := Lib.hid ((hl.lt.alloc (.cells #[] 33)).src (k := 2) (ok := fun b => ok b ∧ b < w.heap.size) (A := some ⟨w.heap.size, 0, none⟩) (fun b hb _ => ⟨hb, fun e => by injection e with e; injection e with e; have := hb.2; omega⟩) (pkgs_one l))
    go_enter Tryd.func38, Tryd.ntmps38
    go_wp2_with (at_builtin; refine wpList_appD rfl _ _ _ rfl (fun b => ok b ∧ b < w.heap.size) w.heap.size 33 _ 2 40 Tryd.underlying28 infoPkg rfl (by omega) _ _ _ [] rfl hm _ n c (l.map Pk.enc) rfl HL.out HS.out (by unfold maxLen; omega) (by omega) (by simp) ?_; intro A2 c2 w2 hown2 hblk hsz hos htp hou _)
    go_ret
    refine ⟨A2, c2, ?_, ?_, ?_⟩
    · rfl
    · rw [List.nil_append, Nat.zero_add] at hown2
      exact hown2.mono fun b hb _ => hb.1
    · refine ⟨hos, htp, hou, by simp at hsz; omega, fun g hg => ?_⟩
      rw [hblk g (by simp; omega) (fun e => by injection e with e; injection e with e; omega)]
      exact Below.heap_alloc w _ g hg
set_option maxHeartbeats 1000000 in
theorem same_any (x s : Sy) (g : Nat) (w : World) (h0 : w.cell? ⟨g, 0, none⟩ = some (str s.pkg)) (h1 : w.cell? ⟨g, 1, none⟩ = some (str s.name)) :
    Calls Tryd.prog 35 #[symAgg x, .pointer (some ⟨g, 0, none⟩)] w (RetBel (.bool (x.name == s.name)) w) := by
  have hlt := World.block_lt_of_cell? _ _ h0
  cases h : (x.name == s.name) with
  | _ =>
    go_enter Tryd.func35, Tryd.ntmps35
    go_wp2
    go_ret
    exact ⟨rfl, box _ _⟩

theorem any_drop {l : List Sy} {nm : List UInt8} {k : Nat} (hk : k < l.length) : (l.drop k).any (fun x => x.name == nm) = (((l[k]).name == nm) || (l.drop (k + 1)).any fun x => x.name == nm) := by
  rw [List.drop_eq_getElem_cons hk, List.any_cons]
def idxF (l : List Sy) (nm : List UInt8) : Int := if l.any (fun x => x.name == nm) then 1 else -1
/-- slices.IndexFunc with that function: not negative exactly if one has the name -/
def RetIdx (b : Bool) (w : World) (e : Ending) (w' : World) : Prop := ∃ i : Int, e = .returned (.int .i64 i) ∧ decide (0 ≤ i) = b ∧ -1 ≤ i ∧ i ≤ 1000000000 ∧ Below w.heap.size w w'
set_option maxHeartbeats 1000000 in
theorem indexSym_any (ok : Nat → Prop) (l : List Sy) (s : Sy) (g : Nat) (A : Option Addr) (n c : Nat) (w : World) (hl : Rd ok w (.slice A n c) (.row (l.map Sy.enc))) (hn : n ≤ 1000000000) (h0 : w.cell? ⟨g, 0, none⟩ = some (str s.pkg)) (h1 : w.cell? ⟨g, 1, none⟩ = some (str s.name)) :
    Calls Tryd.prog 42 #[.slice A n c, .func (.func 35) #[] #[.pointer (some ⟨g, 0, none⟩)]] w (RetIdx (l.any fun x => x.name == s.name) w) := by
  have hlt := World.block_lt_of_cell? _ _ h0
  have HL := Lib.hid hl.len
  rw [List.length_map] at HL
  go_enter Tryd.func42, Tryd.ntmps42
  go_wp2
  go_loopw [8] (fun ix wr => ∃ k : Nat, k ≤ n ∧ ix = .int .i64 k ∧ Hid ((l.drop k).any (fun x => x.name == s.name) = l.any fun x => x.name == s.name) ∧ Below w.heap.size w wr) (fun ix _ => n - (intOf ix).toNat)
  case atStart => exact ⟨0, Nat.zero_le _, rfl, Lib.hid rfl, Below.refl _ _⟩
  case round =>
    obtain ⟨k, hk, rfl, HK, hb⟩ := hrel
    by_cases hkn : k < n
    · obtain ⟨b, o, hkl, rfl, hbl, hok, c0, c1⟩ := hl.syms hb hkn
      have hbl' := Nat.lt_of_lt_of_le hbl hb.size
      have HA := Lib.hid (any_drop (nm := s.name) hkl)
      have g0 := (hb.cell (p := ⟨g, 0, none⟩) hlt).trans h0
      have g1 := (hb.cell (p := ⟨g, 1, none⟩) hlt).trans h1
      have hS := same_any l[k] s g wr g0 g1
      clear g0 g1
      cases hm : ((l[k]).name == s.name) with
      | false =>
        rw [hm] at hS HA
        have HS := Lib.hid hS
        clear hS
        go_wp2_with (go_at_call 35; refine HS.out.mono ?_; rintro e w1 ⟨rfl, hb1⟩)
        go_roundw
        case rel => exact ⟨k + 1, by omega, by go_num, Lib.hid (by have := HA.out; rw [Bool.false_or] at this; rw [← this]; exact HK.out), then_ hb hb1⟩
        case measure => simp only [intOf]; omega
      | true =>
        rw [hm] at hS HA
        have HS := Lib.hid hS
        clear hS
        go_wp2_with (go_at_call 35; refine HS.out.mono ?_; rintro e w1 ⟨rfl, hb1⟩)
        go_ret
        exact ⟨k, rfl, by rw [← HK.out, HA.out, Bool.true_or]; exact decide_eq_true (by omega), by omega, by omega, then_ hb hb1⟩
    · have HN : Hid (l.any (fun x => x.name == s.name) = false) := by show _ = _; rw [← HK.out, List.drop_of_length_le (by rw [HL.out]; omega)]; rfl
      go_wp2
      go_ret
      exact ⟨-1, rfl, by rw [HN.out]; rfl, by omega, by omega, hb⟩
set_option maxHeartbeats 1000000 in
theorem containsSym_any (ok : Nat → Prop) (l : List Sy) (s : Sy) (g : Nat) (A : Option Addr) (n c : Nat) (w : World) (hl : Rd ok w (.slice A n c) (.row (l.map Sy.enc))) (hn : n ≤ 1000000000) (h0 : w.cell? ⟨g, 0, none⟩ = some (str s.pkg)) (h1 : w.cell? ⟨g, 1, none⟩ = some (str s.name)) :
    Calls Tryd.prog 36 #[.slice A n c, .func (.func 35) #[] #[.pointer (some ⟨g, 0, none⟩)]] w (RetBel (.bool (l.any fun x => x.name == s.name)) w) := by
  have HI := Lib.hid (indexSym_any ok l s g A n c w hl hn h0 h1)
  generalize l.any (fun x => x.name == s.name) = b at HI
  clear h0 h1
  go_enter Tryd.func36, Tryd.ntmps36
  go_wp2_with fail
  refine HI.out.mono ?_
  rintro e w1 ⟨i, rfl, hi, hi1, hi2, hb1⟩
  have HB := Lib.hid hi
  clear hi
  go_wp2
  go_ret
  exact ⟨by rw [← HB.out]; rfl, hb1⟩
end Go.Proofs.YtjefhgmnjfclaabDoor
