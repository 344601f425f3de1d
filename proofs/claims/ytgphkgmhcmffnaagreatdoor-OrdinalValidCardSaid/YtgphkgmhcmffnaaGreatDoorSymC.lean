/- Valid symbols and package names: symbol.Valid, ValidPackage, lispproverref4.Valid, ValidPackage; what they reach of package object. -/
import Derived.Test.YtgphkgmhcmffnaaGreatDoorSymB
import Derived.Test.YtgphkgmhcmffnaaGreatDoorSymA
namespace Go.Proofs.YtgphkgmhcmffnaaGreatDoor
open Go.RowKit

/-- the object of a symbol -/
abbrev symObj (s : Sy) : Value := .agg #[.int .i64 2, str [], str [], str s.pkg, str s.name, str [], .slice none 0 0]
abbrev symAgg (s : Sy) : Value := .agg #[str s.pkg, str s.name]

set_option maxHeartbeats 400000 in
theorem objRest_any (s : Sy) (w : World) : Calls Tryz.prog 111 #[symObj s, .int .i64 3001] w (RetBel (.int .i64 3000) w) := by
  go_enter Tryz.func111, Tryz.ntmps111
  go_wp2
  refine wp_loop_rounds 1 ?_
  rw [rounds_succ]
  go_wp2
  go_ret
  exact ⟨rfl, box _ _⟩
set_option maxHeartbeats 400000 in
theorem objBare_any (s : Sy) (w : World) : Calls Tryz.prog 112 #[symObj s, .bool false, .bool true, .bool false] w (RetBel (.bool true) w) := by
  go_enter Tryz.func112, Tryz.ntmps112
  go_wp2
  go_ret
  exact ⟨rfl, box _ _⟩
set_option maxHeartbeats 400000 in
theorem objNodes_any (s : Sy) (w : World) : Calls Tryz.prog 83 #[symObj s] w (RetBel (.int .i64 1) w) := by
  go_enter Tryz.func83, Tryz.ntmps83
  go_wp2_with fail
  refine (objRest_any s _).mono ?_
  rintro e w1 ⟨rfl, hb1⟩
  go_wp2
  go_ret
  exact ⟨rfl, via hb1⟩
set_option maxHeartbeats 400000 in
theorem objFormed_any (s : Sy) (w : World) (hp : s.pkg.length ≤ 9223372036854775807) (hn : s.name.length ≤ 9223372036854775807) : Calls Tryz.prog 84 #[symObj s] w (RetBel (.bool (symOk s)) w) := by
  go_enter Tryz.func84, Tryz.ntmps84
  go_wp2
  refine wp_loop_rounds 1 ?_
  rw [rounds_succ]
  go_wp2_with fail
  refine (objBare_any s _).mono ?_
  rintro e w1 ⟨rfl, hb1⟩
  obtain ⟨c0, c1, c2, c3, c4, c5, c6, hg⟩ := (BlkIs.via hb1).seven
  go_wp2_with fail
  refine (objSymbol_any s _ hp hn).mono ?_
  rintro e w2 ⟨rfl, hb2⟩
  go_wp2
  go_ret
  exact ⟨rfl, then_ (via hb1) hb2⟩
set_option maxHeartbeats 400000 in
theorem objValid_any (s : Sy) (w : World) (hp : s.pkg.length ≤ 9223372036854775807) (hn : s.name.length ≤ 9223372036854775807) : Calls Tryz.prog 46 #[symObj s] w (RetBel (.bool (symOk s)) w) := by
  have HF : Hid (∀ w' : World, Calls Tryz.prog 84 #[symObj s] w' (RetBel (.bool (symOk s)) w')) := fun w' => objFormed_any s w' hp hn
  go_enter Tryz.func46, Tryz.ntmps46
  go_wp2_with fail
  refine (objNodes_any s _).mono ?_
  rintro e w1 ⟨rfl, hb1⟩
  obtain ⟨c0, c1, c2, c3, c4, c5, c6, hg⟩ := (BlkIs.via hb1).seven
  go_wp2_with fail
  refine (HF.out _).mono ?_
  rintro e w2 ⟨rfl, hb2⟩
  go_wp2
  go_ret
  exact ⟨rfl, then_ (via hb1) hb2⟩

/-! ### symbol.Valid, ValidPackage -/
theorem symOk_x (l : List UInt8) : symOk ⟨l, [120]⟩ = pkgOk l := by
  unfold symOk
  rw [show nameOk [120] = true from rfl, Bool.and_true]
set_option maxHeartbeats 400000 in
theorem ref2Named_any (s : Sy) (w : World) (hp : s.pkg.length ≤ 9223372036854775807) (hn : s.name.length ≤ 9223372036854775807) : Calls Tryz.prog 127 #[symAgg s] w (RetBel (.bool (symOk s)) w) := by
  obtain ⟨l, m⟩ := s
  have HF : Hid (∀ (w' : World) (b : Bool), pkgOk l = b → Calls Tryz.prog 145 #[str l] w' (RetPureV (.bool b) w')) := fun w' b hb => by
    have := ref2Package_any l w' hp
    rwa [hb] at this
  dsimp only at hp hn ⊢
  cases h : pkgOk l with
  | false =>
    have HR : Hid (symOk ⟨l, m⟩ = false) := by show _ = _; unfold symOk; rw [h]; rfl
    have HH := Lib.hid h
    clear h
    go_enter Tryz.func127, Tryz.ntmps127
    go_wp2_with fail
    refine (HF.out _ _ HH.out).mono ?_
    rintro e w1 ⟨rfl, rfl⟩
    go_wp2
    go_ret
    exact ⟨by rw [HR.out]; rfl, box _ _⟩
  | true =>
    have HR : Hid (symOk ⟨l, m⟩ = nameOk m) := by show _ = _; unfold symOk; rw [h]; rfl
    have HH := Lib.hid h
    clear h
    by_cases h1 : 1 ≤ m.length
    · by_cases h2 : m.length ≤ 40
      · have HN : Hid (nameOk m = true) := by show _ = _; unfold nameOk; simp; omega
        have hd : decide ((m.length : Int) ≤ 40) = true := by simp; omega
        go_enter Tryz.func127, Tryz.ntmps127
        go_wp2_with fail
        refine (HF.out _ _ HH.out).mono ?_
        rintro e w1 ⟨rfl, rfl⟩
        go_wp2
        go_ret
        exact ⟨by rw [HR.out, HN.out]; rfl, box _ _⟩
      · have HN := Lib.hid (nameOk_len (l := m) (.inr (by omega)))
        have hd : decide ((m.length : Int) ≤ 40) = false := by simp; omega
        go_enter Tryz.func127, Tryz.ntmps127
        go_wp2_with fail
        refine (HF.out _ _ HH.out).mono ?_
        rintro e w1 ⟨rfl, rfl⟩
        go_wp2
        go_ret
        exact ⟨by rw [HR.out, HN.out]; rfl, box _ _⟩
    · have HN := Lib.hid (nameOk_len (l := m) (.inl (by omega)))
      have hd : decide (1 ≤ (m.length : Int)) = false := by simp; omega
      go_enter Tryz.func127, Tryz.ntmps127
      go_wp2_with fail
      refine (HF.out _ _ HH.out).mono ?_
      rintro e w1 ⟨rfl, rfl⟩
      go_wp2
      go_ret
      exact ⟨by rw [HR.out, HN.out]; rfl, box _ _⟩
end Go.Proofs.YtgphkgmhcmffnaaGreatDoor
