/- Names of packages and symbols: object.symbol, lispproverref2.Package, Named. -/
import Derived.Test.YtgphkgmhcmffnaaGreatDoorJP
import Derived.WalkLawsBesides
import Derived.Lib.Strings
namespace Go.Proofs.YtgphkgmhcmffnaaGreatDoor
open Go.RowKit

theorem byteAt {D : ByteArray} {l : List UInt8} (h : D.data.toList = l) (k : Nat) (hk : k < D.size) : ∃ hl : k < l.length, D[k] = l[k] := by
  subst h
  exact ⟨by rw [← Lib.size_eq]; exact hk, rfl⟩

def lowC (c : UInt8) : Bool := decide (97 ≤ c.toNat) && decide (c.toNat ≤ 122)
def tailC (c : UInt8) : Bool := lowC c || decide (c.toNat = 45) || (decide (48 ≤ c.toNat) && decide (c.toNat ≤ 57))
def charOk (i : Nat) (c : UInt8) : Bool := if i = 0 then lowC c else tailC c
def pkgOk (l : List UInt8) : Bool := decide (1 ≤ l.length) && decide (l.length ≤ 40) && (List.range l.length).all fun i => charOk i (l.getD i 0)
def nameOk (l : List UInt8) : Bool := decide (1 ≤ l.length) && decide (l.length ≤ 40)
def symOk (s : Sy) : Bool := pkgOk s.pkg && nameOk s.name

theorem pkgOk_bad {l : List UInt8} {k : Nat} (hk : k < l.length) (h : charOk k l[k] = false) : pkgOk l = false := by
  unfold pkgOk
  rw [Bool.and_eq_false_iff]
  right
  rw [Bool.eq_false_iff]
  intro hc
  have := List.all_eq_true.1 hc k (List.mem_range.2 hk)
  rw [List.getD_eq_getElem?_getD, List.getElem?_eq_getElem hk] at this
  simp only [Option.getD_some] at this
  rw [h] at this; cases this
theorem pkgOk_good {l : List UInt8} (h1 : 1 ≤ l.length) (h2 : l.length ≤ 40) (h : ∀ i (hi : i < l.length), charOk i l[i] = true) : pkgOk l = true := by
  unfold pkgOk
  simp only [Bool.and_eq_true, decide_eq_true_eq]
  refine ⟨⟨h1, h2⟩, List.all_eq_true.2 fun i hi => ?_⟩
  have hi := List.mem_range.1 hi
  rw [List.getD_eq_getElem?_getD, List.getElem?_eq_getElem hi]
  exact h i hi
theorem charOk_iff {i : Nat} {c : UInt8} : charOk i c = true ↔ ((97 ≤ c.toNat ∧ c.toNat ≤ 122) ∨ (i ≠ 0 ∧ (c.toNat = 45 ∨ (48 ≤ c.toNat ∧ c.toNat ≤ 57)))) := by
  unfold charOk tailC lowC
  by_cases h : i = 0 <;> simp [h]
  omega
theorem charOk_not {i : Nat} {c : UInt8} : charOk i c = false ↔ ¬ ((97 ≤ c.toNat ∧ c.toNat ≤ 122) ∨ (i ≠ 0 ∧ (c.toNat = 45 ∨ (48 ≤ c.toNat ∧ c.toNat ≤ 57)))) := by
  rw [← charOk_iff]; simp
theorem pkgOk_len {l : List UInt8} (h : l.length < 1 ∨ 40 < l.length) : pkgOk l = false := by
  unfold pkgOk
  rcases h with h | h
  · have : decide (1 ≤ l.length) = false := by simpa using h
    rw [this]; rfl
  · have : decide (l.length ≤ 40) = false := by simpa using h
    rw [this]; simp
theorem nameOk_len {l : List UInt8} (h : l.length < 1 ∨ 40 < l.length) : nameOk l = false := by
  unfold nameOk
  rcases h with h | h
  · have : decide (1 ≤ l.length) = false := by simpa using h
    rw [this]; rfl
  · have : decide (l.length ≤ 40) = false := by simpa using h
    rw [this]; simp

theorem charCases (c : Nat) : (97 ≤ c ∧ c ≤ 122) ∨ (c = 45 ∧ c ≤ 45) ∨ (48 ≤ c ∧ c ≤ 57) ∨ (c < 48 ∧ c ≠ 45) ∨ (57 < c ∧ c < 97) ∨ (122 < c ∧ c ≠ 45) := by omega

set_option maxHeartbeats 1000000 in
theorem ref2Package_any (l : List UInt8) (w : World) (hl : l.length ≤ 9223372036854775807) :
    Calls Tryz.prog 145 #[str l] w (RetPureV (.bool (pkgOk l)) w) := by
  obtain ⟨D, hD⟩ : ∃ D : ByteArray, D = ⟨l.toArray⟩ := ⟨_, rfl⟩
  unfold str
  rw [← hD]
  have HT : Hid (D.data.toList = l) := by rw [hD]; exact (rfl : l.toArray.toList = l)
  have HSz : Hid (D.size = l.length) := by show _ = _; rw [Lib.size_eq, HT.out]
  have hsz : D.size ≤ 9223372036854775807 := by rw [HSz.out]; exact hl
  clear hD hl
  by_cases h1 : D.size < 1
  · have HR := Lib.hid (pkgOk_len (l := l) (.inl (by rw [← HSz.out]; exact h1)))
    go_enter Tryz.func145, Tryz.ntmps145
    go_wp2
    go_ret
    exact ⟨by rw [HR.out]; rfl, rfl⟩
  · by_cases h2 : 40 < D.size
    · have HR := Lib.hid (pkgOk_len (l := l) (.inr (by rw [← HSz.out]; exact h2)))
      go_enter Tryz.func145, Tryz.ntmps145
      go_wp2
      go_ret
      exact ⟨by rw [HR.out]; rfl, rfl⟩
    · have hp : 0 < D.size := by omega
      obtain ⟨hl0, e0⟩ := byteAt HT.out 0 hp
      have E0 := Lib.hid e0
      clear e0
      by_cases h3 : 97 ≤ D[0].toNat ∧ D[0].toNat ≤ 122
      · obtain ⟨h3, h4⟩ := h3
        go_enter Tryz.func145, Tryz.ntmps145
        go_wp2
        go_loop [3] (fun ix => ∃ k : Nat, k ≤ D.size ∧ ix = .int .i64 k ∧ Hid (∀ i (hi : i < l.length), i < k → charOk i l[i] = true)) (fun ix => D.size - (intOf ix).toNat)
        case atStart => exact ⟨0, Nat.zero_le _, rfl, Lib.hid (fun i _ h => absurd h (by omega))⟩
        case round =>
          obtain ⟨k, hk, rfl, HK⟩ := hrel
          by_cases hlt : k < D.size
          · obtain ⟨hkl, ek⟩ := byteAt HT.out k hlt
            have EK := Lib.hid ek
            have HU : Hid (charOk k l[k] = true → ∀ i (hi : i < l.length), i < k + 1 → charOk i l[i] = true) := fun hc i hi h => by
              rcases Nat.lt_or_ge i k with h' | h'
              · exact HK.out i hi h'
              · obtain rfl : i = k := by omega
                exact hc
            have H0 : Hid (k = 0 → 97 ≤ D[k].toNat ∧ D[k].toNat ≤ 122) := fun e => by subst e; exact ⟨h3, h4⟩
            clear ek
            rcases charCases D[k].toNat with ⟨g1, g2⟩ | ⟨g1, g2⟩ | ⟨g1, g2⟩ | ⟨g1, g2⟩ | ⟨g1, g2⟩ | ⟨g1, g2⟩
            · go_wp2
              go_round
              case rel => exact ⟨k + 1, by omega, by go_num, Lib.hid (HU.out (charOk_iff.2 (by rw [← EK.out]; omega)))⟩
              case measure => simp only [intOf]; omega
            · have hne : ((D[k].toNat : Int) != 45) = false := by rw [bne_eq_false_iff_eq]; omega
              have hk0 : k ≠ 0 := fun e => by have := H0.out e; omega
              go_wp2
              go_round
              case rel => exact ⟨k + 1, by omega, by go_num, Lib.hid (HU.out (charOk_iff.2 (by rw [← EK.out]; omega)))⟩
              case measure => simp only [intOf]; omega
            · have hk0 : k ≠ 0 := fun e => by have := H0.out e; omega
              go_wp2
              go_round
              case rel => exact ⟨k + 1, by omega, by go_num, Lib.hid (HU.out (charOk_iff.2 (by rw [← EK.out]; omega)))⟩
              case measure => simp only [intOf]; omega
            all_goals
              have hne : ((D[k].toNat : Int) != 45) = true := by rw [bne_iff_ne]; omega
              have HR := Lib.hid (pkgOk_bad hkl (charOk_not.2 (by rw [← EK.out]; omega)))
              go_wp2
              go_ret
              exact ⟨by rw [HR.out]; rfl, rfl⟩
          · have HR := Lib.hid (pkgOk_good (l := l) (by rw [← HSz.out]; omega) (by rw [← HSz.out]; omega) (fun i hi => HK.out i hi (by rw [← HSz.out] at hi; omega)))
            go_wp2
            go_ret
            exact ⟨by rw [HR.out]; rfl, rfl⟩
      · have HR := Lib.hid (pkgOk_bad hl0 (charOk_not.2 (by rw [← E0.out]; omega)))
        rcases Nat.lt_or_ge D[0].toNat 97 with h5 | h5
        · go_enter Tryz.func145, Tryz.ntmps145
          go_wp2
          go_ret
          exact ⟨by rw [HR.out]; rfl, rfl⟩
        · have h6 : 122 < D[0].toNat := by omega
          go_enter Tryz.func145, Tryz.ntmps145
          go_wp2
          go_ret
          exact ⟨by rw [HR.out]; rfl, rfl⟩
set_option maxHeartbeats 2000000 in
theorem objSymbol_any (s : Sy) (w : World) (hp : s.pkg.length ≤ 9223372036854775807) (hn : s.name.length ≤ 9223372036854775807) :
    Calls Tryz.prog 114 #[.agg #[str s.pkg, str s.name]] w (RetBel (.bool (symOk s)) w) := by
  obtain ⟨l, m⟩ := s
  unfold str
  dsimp only at hp hn ⊢
  obtain ⟨D, hD⟩ : ∃ D : ByteArray, D = ⟨l.toArray⟩ := ⟨_, rfl⟩
  obtain ⟨E, hE⟩ : ∃ E : ByteArray, E = ⟨m.toArray⟩ := ⟨_, rfl⟩
  rw [← hD, ← hE]
  have HT : Hid (D.data.toList = l) := by rw [hD]; exact (rfl : l.toArray.toList = l)
  have HSz : Hid (D.size = l.length) := by show _ = _; rw [Lib.size_eq, HT.out]
  have HSm : Hid (E.size = m.length) := by show _ = _; rw [Lib.size_eq, hE]
  have hsz : D.size ≤ 9223372036854775807 := by rw [HSz.out]; exact hp
  have hsm : E.size ≤ 9223372036854775807 := by rw [HSm.out]; exact hn
  clear hD hE hp hn
  have HP : Hid (pkgOk l = false → symOk ⟨l, m⟩ = false) := fun h => by unfold symOk; rw [h]; rfl
  have HM : Hid (nameOk m = false → symOk ⟨l, m⟩ = false) := fun h => by unfold symOk; rw [h]; simp
  by_cases h1 : D.size < 1
  · have HR := Lib.hid (HP.out (pkgOk_len (.inl (by rw [← HSz.out]; exact h1))))
    go_enter Tryz.func114, Tryz.ntmps114
    go_wp2
    go_ret
    exact ⟨by rw [HR.out]; rfl, (Below.refl _ _).alloc (Nat.le_refl _) _⟩
  by_cases h2 : 40 < D.size
  · have HR := Lib.hid (HP.out (pkgOk_len (.inr (by rw [← HSz.out]; exact h2))))
    go_enter Tryz.func114, Tryz.ntmps114
    go_wp2
    go_ret
    exact ⟨by rw [HR.out]; rfl, (Below.refl _ _).alloc (Nat.le_refl _) _⟩
  by_cases h3 : E.size < 1
  · have HR := Lib.hid (HM.out (nameOk_len (.inl (by rw [← HSm.out]; exact h3))))
    go_enter Tryz.func114, Tryz.ntmps114
    go_wp2
    go_ret
    exact ⟨by rw [HR.out]; rfl, (Below.refl _ _).alloc (Nat.le_refl _) _⟩
  by_cases h4 : 40 < E.size
  · have HR := Lib.hid (HM.out (nameOk_len (.inr (by rw [← HSm.out]; exact h4))))
    go_enter Tryz.func114, Tryz.ntmps114
    go_wp2
    go_ret
    exact ⟨by rw [HR.out]; rfl, (Below.refl _ _).alloc (Nat.le_refl _) _⟩
  have HN : Hid (nameOk m = true) := by show _ = _; unfold nameOk; rw [← HSm.out]; simp; omega
  go_enter Tryz.func114, Tryz.ntmps114
  go_wp2
  go_loop [31] (fun ix => ∃ k : Nat, k ≤ D.size ∧ ix = .int .i64 k ∧ Hid (∀ i (hi : i < l.length), i < k → charOk i l[i] = true)) (fun ix => D.size - (intOf ix).toNat)
  case atStart => exact ⟨0, Nat.zero_le _, rfl, Lib.hid (fun i _ h => absurd h (by omega))⟩
  case round =>
    obtain ⟨k, hk, rfl, HK⟩ := hrel
    by_cases hlt : k < D.size
    · obtain ⟨hkl, ek⟩ := byteAt HT.out k hlt
      have EK := Lib.hid ek
      have HU : Hid (charOk k l[k] = true → ∀ i (hi : i < l.length), i < k + 1 → charOk i l[i] = true) := fun hc i hi h => by
        rcases Nat.lt_or_ge i k with h' | h'
        · exact HK.out i hi h'
        · obtain rfl : i = k := by omega
          exact hc
      clear ek
      rcases Nat.eq_zero_or_pos k with hk0 | hk0
      · subst hk0
        by_cases g : 97 ≤ D[0].toNat ∧ D[0].toNat ≤ 122
        · obtain ⟨g1, g2⟩ := g
          go_wp2
          go_round
          case rel => exact ⟨1, by omega, rfl, Lib.hid (HU.out (charOk_iff.2 (by rw [← EK.out]; omega)))⟩
          case measure => simp only [intOf]; omega
        · have HR := Lib.hid (HP.out (pkgOk_bad hkl (charOk_not.2 (by rw [← EK.out]; omega))))
          rcases Nat.lt_or_ge D[0].toNat 97 with g1 | g1
          · go_wp2
            go_ret
            exact ⟨by rw [HR.out]; rfl, (Below.refl _ _).alloc (Nat.le_refl _) _⟩
          · have g2 : 122 < D[0].toNat := by omega
            have hd : decide ((D[0].toNat : Int) ≤ 122) = false := by simp; omega
            go_wp2
            go_ret
            exact ⟨by rw [HR.out]; rfl, (Below.refl _ _).alloc (Nat.le_refl _) _⟩
      · have e0 : ((k : Int) == 0) = false := by rw [beq_eq_false_iff_ne]; omega
        rcases charCases D[k].toNat with ⟨g1, g2⟩ | ⟨g1, g2⟩ | ⟨g1, g2⟩ | ⟨g1, g2⟩ | ⟨g1, g2⟩ | ⟨g1, g2⟩
        · go_wp2
          go_round
          case rel => exact ⟨k + 1, by omega, by go_num, Lib.hid (HU.out (charOk_iff.2 (by rw [← EK.out]; omega)))⟩
          case measure => simp only [intOf]; omega
        · have hne : ((D[k].toNat : Int) != 45) = false := by rw [bne_eq_false_iff_eq]; omega
          go_wp2
          go_round
          case rel => exact ⟨k + 1, by omega, by go_num, Lib.hid (HU.out (charOk_iff.2 (by rw [← EK.out]; omega)))⟩
          case measure => simp only [intOf]; omega
        · have hne : ((D[k].toNat : Int) != 45) = true := by rw [bne_iff_ne]; omega
          go_wp2
          go_round
          case rel => exact ⟨k + 1, by omega, by go_num, Lib.hid (HU.out (charOk_iff.2 (by rw [← EK.out]; omega)))⟩
          case measure => simp only [intOf]; omega
        all_goals
          have hne : ((D[k].toNat : Int) != 45) = true := by rw [bne_iff_ne]; omega
          have HR := Lib.hid (HP.out (pkgOk_bad hkl (charOk_not.2 (by rw [← EK.out]; omega))))
          first
            | (have hd : decide ((D[k].toNat : Int) ≤ 122) = false := (by simp; omega); have hd2 : 97 ≤ D[k].toNat := (by omega); go_wp2; go_ret; exact ⟨by rw [HR.out]; rfl, (Below.refl _ _).alloc (Nat.le_refl _) _⟩)
            | (go_wp2; go_ret; exact ⟨by rw [HR.out]; rfl, (Below.refl _ _).alloc (Nat.le_refl _) _⟩)
    · have HR : Hid (symOk ⟨l, m⟩ = true) := by
        show _ = _
        unfold symOk
        rw [pkgOk_good (by rw [← HSz.out]; omega) (by rw [← HSz.out]; omega) (fun i hi => HK.out i hi (by rw [← HSz.out] at hi; omega)), HN.out]; rfl
      go_wp2
      go_ret
      exact ⟨by rw [HR.out]; rfl, (Below.refl _ _).alloc (Nat.le_refl _) _⟩
end Go.Proofs.YtgphkgmhcmffnaaGreatDoor
