/- lispproverlaw4.SymbolMany returns true. -/
import Derived.Test.YtjefhgmnjfclaabDoorSymJ
import Derived.Test.YtjefhgmnjfclaabDoorItoa
import Derived.Test.YtjefhgmnjfclaabDoorLimb
import Derived.Deep.RegionHeld3
namespace Go.Proofs.YtjefhgmnjfclaabDoor
open Go.RowKit

abbrev lispB : List UInt8 := [108, 105, 115, 112]
abbrev manyS (i : Nat) : Sy := ⟨lispB, Lib.itoa (i : Int)⟩
def manyL (n : Nat) : List Sy := (List.range n).map manyS
def manyP (n : Nat) : Pk := ⟨[109, 97, 110, 121], manyL n⟩
theorem manyL_succ (n : Nat) : manyL (n + 1) = manyL n ++ [manyS n] := by
  unfold manyL; rw [List.range_succ, List.map_append]; rfl
theorem manyS_len {i : Nat} (hi : i < 1000) : 1 ≤ (Lib.itoa (i : Int)).length ∧ (Lib.itoa (i : Int)).length ≤ 3 := by
  rw [Dec.itoa_pos]
  refine ⟨?_, Dec.decDigits_length_le (by omega) (by omega)⟩
  exact List.length_pos_iff.2 (Dec.decDigits_ne_nil i)
theorem many_bad {n i : Nat} (hi : i < n) (hn : n ≤ 1000) : badAt [lispPk] (manyL n) i (manyS i) = 0 := by
  obtain ⟨h1, h2⟩ := manyS_len (i := i) (by omega)
  unfold badAt
  have hs : symOk (manyS i) = true := by
    unfold symOk
    have : pkgOk (manyS i).pkg = true := rfl
    rw [this, Bool.true_and]
    unfold nameOk
    rw [decide_eq_true (show 1 ≤ (manyS i).name.length from h1), decide_eq_true (show (manyS i).name.length ≤ 40 from Nat.le_trans h2 (by omega))]; rfl
  have hv : visP [lispPk] (manyS i).pkg (manyS i) = true := by
    have : internP [lispPk] (manyS i).pkg (manyS i).name = (manyS i, 0) := by
      unfold internP
      have hf : findP [lispPk] (manyS i).pkg = some lispPk := rfl
      rw [hf]
      simp only
      rw [if_neg (fun h => by
        have g1 : 1 ≤ (manyS i).name.length := h1
        have g2 : (manyS i).name.length ≤ 3 := h2
        rcases h with h | h
        · exact absurd (Nat.lt_of_lt_of_le h g1) (Nat.lt_irrefl _)
        · exact absurd (Nat.lt_of_lt_of_le h g2) (by decide))]
      rfl
    unfold visP
    rw [this]; simp
  have ha : ((manyL n).take i).any (fun x => x.name == (manyS i).name) = false := by
    rw [List.any_eq_false]
    intro x hx
    unfold manyL at hx
    rw [← List.map_take] at hx
    obtain ⟨j, hj, rfl⟩ := List.mem_map.1 hx
    have hj' : j < i := by
      have h := List.take_range ▸ hj
      rw [List.mem_range] at h
      omega
    simp only [beq_iff_eq]
    intro e
    have := Dec.itoa_inj e
    omega
  rw [if_neg (by simp [hs]), if_neg (by simp [hv]), if_neg (by simp [ha])]
theorem many_first {n : Nat} (hn : n ≤ 1000) : ∀ k, firstBad [lispPk] (manyL n) k ((manyL n).drop k) = 0 := by
  have hl : (manyL n).length = n := by simp [manyL]
  have : ∀ d k, k + d = n → firstBad [lispPk] (manyL n) k ((manyL n).drop k) = 0 := by
    intro d
    induction d with
    | zero => intro k hk; rw [List.drop_of_length_le (by omega)]; rfl
    | succ d ih =>
      intro k hk
      rw [firstBad_step (by omega)]
      · exact ih (k + 1) (by omega)
      · have e : (manyL n)[k]'(by omega) = manyS k := by simp [manyL]
        rw [e]; exact many_bad (by omega) hn
  intro k
  rcases Nat.lt_or_ge n k with h | h
  · rw [List.drop_of_length_le (by omega)]; rfl
  · exact this (n - k) k (by omega)
theorem many_define {n : Nat} (hn : n ≤ 1000) : (defineP [lispPk] (manyP n)).2 = if 200 < n then 2 else 0 := by
  have hl : (manyL n).length = n := by simp [manyL]
  unfold defineP
  rw [if_neg (by rw [show pkgOk (manyP n).name = true from rfl]; simp), if_neg (by rw [show findP [lispPk] (manyP n).name = none from rfl]; simp)]
  have e : (manyP n).imps = manyL n := rfl
  rw [e, hl]
  by_cases h : 200 < n
  · rw [if_pos h, if_pos h]
  · rw [if_neg h, if_neg h]
    have := many_first hn 0
    rw [List.drop_zero] at this
    rw [if_pos this]

set_option maxHeartbeats 400000 in
theorem mod3_any (n : Int) (w : World) (_h0 : -9223372036854775808 ≤ n) (_h1 : n ≤ 9223372036854775807) :
    Calls Tryd.prog 23 #[.int .i64 n, .int .i64 3] w (RetPureV (.int .i64 (n % 3)) w) := by
  have hb : -3 < n.tmod 3 ∧ n.tmod 3 < 3 := ⟨by have := Int.lt_tmod_of_pos n (b := 3) (by omega); omega, Int.tmod_lt_of_pos n (by omega)⟩
  obtain ⟨hb1, hb2⟩ := hb
  have he : n % 3 = if n.tmod 3 < 0 then n.tmod 3 + 3 else n.tmod 3 := by
    have ht := Int.mul_tdiv_add_tmod n 3
    split <;> omega
  have HE := Lib.hid he
  clear he
  by_cases hneg : n.tmod 3 < 0
  · go_enter Tryd.func23, Tryd.ntmps23
    go_wp2
    go_ret
    exact ⟨by rw [HE.out, if_pos hneg]; rfl, rfl⟩
  · go_enter Tryd.func23, Tryd.ntmps23
    go_wp2
    go_ret
    exact ⟨by rw [HE.out, if_neg (by omega)]; rfl, rfl⟩
theorem refFromInt_any (n : Int) (w : World) (ht : Tab w) (h0 : -9223372036854775808 ≤ n) (h1 : n ≤ 9223372036854775807) :
    Calls Tryd.prog 24 #[.int .i64 n] w (RetBel (str (Lib.itoa n)) w) := by
  have HI := Lib.hid (itoa_any n w ht h0 h1)
  clear h0 h1
  go_enter Tryd.func24, Tryd.ntmps24
  go_wp2_with fail
  refine HI.out.mono ?_
  rintro e w' ⟨rfl, hb⟩
  go_wp2
  go_ret
  exact ⟨rfl, hb⟩

theorem sym_src {OK : Nat → Prop} {W : World} {A7 : Option Addr} (x : Sy) {g : Nat} (hB : BlkIs W g 23 #[str x.pkg, str x.name]) :
    Hid (0 < 1 → ∃ b o, (some ⟨g, 0, none⟩ : Option Addr) = some ⟨b, o, none⟩ ∧ ∀ i (hi : i < [x.enc].length), ([x.enc][i]).length = 2 ∧ ∀ j (hj : j < ([x.enc][i]).length), ∃ u, W.cell? ⟨b, o + i * 2 + j, none⟩ = some u ∧ Rd (fun b => OK b ∧ A7 ≠ some ⟨b, 0, none⟩) W u ([x.enc][i])[j] ∧ u.oneCell' = true) :=
  src_blk (ok := OK) (A := A7) hB rfl (fun j hj => by
    rcases j with _ | _ | j
    · exact ⟨_, rfl, .val _, rfl⟩
    · exact ⟨_, rfl, .val _, rfl⟩
    · exact absurd hj (by simp [Sy.enc]))
theorem RetPksE.two {ok : Nat → Prop} {r : List Pk × Int} {w w' : World} {e : Ending} (h : RetPksE ok r w e w') : ∃ A n c, e = .returned (.tuple #[.slice A n c, .int .i64 r.2]) ∧ Below w.heap.size w w' := by
  obtain ⟨A, n, c, h1, _, h2⟩ := h
  exact ⟨A, n, c, h1, h2⟩

theorem flat_far {w : World} {base : Nat} {E : TypeId} {A : Option Addr} {n c : Nat} {l : List Sy} (h : OwnD (fun _ => True) w base E 2 A n c (l.map Sy.enc)) {g i : Nat} (hA : A ≠ some ⟨g, 0, none⟩) (u : Value) : OwnD (fun _ => True) (w.setCell ⟨g, i, none⟩ u) base E 2 A n c (l.map Sy.enc) := by
  obtain ⟨xs, ⟨hx, ho⟩, he⟩ := h.own
  refine ⟨h.len, xs, ⟨hx, ?_⟩, fun i hi => ⟨(he i hi).1, fun j hj => ?_⟩⟩
  · rcases ho with hv | ⟨g', cap, cur, hv, hbg, hg, hr⟩
    · exact .inl hv
    · refine .inr ⟨g', cap, cur, hv, hbg, ?_, hr⟩
      simp only [Value.slice.injEq] at hv
      rw [Below.heap_setCell]
      · exact hg
      · rintro rfl; exact hA hv.1
  · obtain ⟨v, h1, h2⟩ := (he i hi).2 j hj
    refine ⟨v, h1, ?_⟩
    have hi' : i < l.length := by simpa using hi
    simp only [List.getElem_map] at hj h2 ⊢
    rcases j with _ | _ | j
    · have := h2.val_eq; rw [this]; exact .val _
    · have := h2.val_eq; rw [this]; exact .val _
    · exact absurd hj (by simp [Sy.enc])

set_option maxHeartbeats 2000000 in
set_option maxRecDepth 100000 in
theorem many_main (m : Int) (z : Nat) (hz : z ≤ 2) (w : World) (ht : Tab w) (h0 : -9223372036854775808 ≤ m) (h1 : m ≤ 9223372036854775807) (HMz : Hid (m % 3 = (z : Int))) :
    Calls Tryd.prog 5 #[.int .i64 m] w (RetTrue4 w) := by
  have HM := Lib.hid (fun w' => mod3_any m w' h0 h1)
  rw [HMz.out] at HM
  have HD := Lib.hid (many_define (n := 199 + z) (by omega))
  clear h0 h1
  go_enter Tryd.func5, Tryd.ntmps5
  go_wp2_with fail
  refine (first4_any _).mono ?_
  rintro e v1 ⟨rfl, b1⟩
  go_wp2_with fail
  refine (HM.out _).mono ?_
  rintro e w' ⟨rfl, rfl⟩
  go_wp2
  go_loopw [4] (fun ix wr => ∃ (k c2 : Nat) (A2 : Option Addr), k ≤ 199 + z ∧ ix = .int .i64 k ∧ Hid (BlkIs wr v1.heap.size 33 #[str [109, 97, 110, 121], .slice A2 k c2]) ∧ OwnD (fun _ => True) wr (v1.heap.size + 1) 23 2 A2 k c2 ((manyL k).map Sy.enc) ∧ Below w.heap.size w wr) (fun ix _ => 199 + z - (intOf ix).toNat)
  case atStart => exact ⟨0, 0, none, Nat.zero_le _, rfl, Lib.hid (BlkIs.new v1 _ _), OwnD.nil _ _ _ _ _, box2 b1 _⟩
  case round =>
    obtain ⟨k, c2, A2, hk, rfl, HB, hown, hb⟩ := hrel
    obtain ⟨x0, x1, f0, f1, hlt⟩ := HB.out.two
    by_cases hkn : k < 199 + z
    · have hd : Below wr.heap.size wr wr.drew := (Below.refl _ _).drew
      have HI := Lib.hid (refFromInt_any k wr.drew ((ht.below hb).below hd) (by omega) (by omega))
      have HLk : Hid ((manyL (k + 1)).map Sy.enc = (manyL k).map Sy.enc ++ [(manyS k).enc]) := by show _ = _; rw [manyL_succ, List.map_append]; rfl
      have hv := b1.size
      go_upto_region 8 with (fail)
      go_region_law
        (first | (refine step_appD rfl _ _ _ rfl (fun _ => True) (v1.heap.size + 1) 23 _ 2 32 Tryd.underlying31 infoSym rfl (by omega) _ _ _ _ rfl HO _ 1 1 [(manyS k).enc] rfl rfl HSRC.out (by unfold maxLen; omega) (by omega) HSZ ?_; intro A3 c3 w3 hown3 hblk3 hsz3 hos3 htp3 hou3 _; have hbw3 := below_appD HBW HFR.out hblk3 hsz3 hos3 htp3 hou3; have HP3 := Lib.hid (HPB.out.keep (hblk3 _ HPB.out.lt HNE.out)); clear hblk3 hsz3 hos3 htp3 hou3; obtain ⟨p0, p1, p2, p3, p4⟩ := HP3.out.two) | (go_simp; go_at_call 24; refine HI.out.mono ?_; rintro e w1 ⟨rfl, hb1⟩; have hbr1 := then_ hd hb1; obtain ⟨y0, y1, _, _, y2⟩ := (HB.out.below hbr1).two; have HO := (hown.under hbr1).alloc (.cells #[str (manyS k).pkg, str (manyS k).name] 23); have HSRC := sym_src (OK := fun _ => True) (A7 := A2) (manyS k) (BlkIs.new w1 23 #[str (manyS k).pkg, str (manyS k).name]); have HPB := Lib.hid ((HB.out.below hbr1).alloc (.cells #[str (manyS k).pkg, str (manyS k).name] 23)); have HBW := box2 (then_ hb hbr1) (.cells #[str (manyS k).pkg, str (manyS k).name] 23); have HFR := Lib.hid (fun g e => Nat.le_trans (Nat.le_succ_of_le hv) (hown.from_ g e)); have HNE := Lib.hid (fun e => Nat.not_succ_le_self _ (hown.from_ v1.heap.size e)); have HSZ := Nat.le_trans (Nat.succ_le_of_lt HB.out.lt) (box2 hbr1 (.cells #[str (manyS k).pkg, str (manyS k).name] 23)).size))
      all_goals go_wp2
      all_goals
        go_roundw
        case rel =>
          refine ⟨k + 1, c3, A3, by omega, by go_num, Lib.hid (HP3.out.at1 _), ?_, set2 hbw3 hv _⟩
          have ho3 := hown3
          rw [← HLk.out] at ho3
          exact flat_far ho3 (fun e => Nat.not_succ_le_self _ (hown3.from_ v1.heap.size e)) _
        case measure => simp only [intOf]; omega
    · obtain rfl : k = 199 + z := by omega
      have hl : (manyL (199 + z)).length = 199 + z := by simp [manyL]
      have HDf : Hid (∀ (W : World) (A1 : Option Addr) (n1 c1 : Nat), Below wr.heap.size wr W → PkOk (fun _ => True) W A1 n1 c1 [lispPk] → Calls Tryd.prog 19 #[.slice A1 n1 c1, .agg #[str [109, 97, 110, 121], .slice A2 (199 + z) c2]] W (fun e w' => ∃ A n c, e = .returned (.tuple #[.slice A n c, .int .i64 (if 200 < 199 + z then 2 else 0)]) ∧ Below W.heap.size W w')) := fun W A1 n1 c1 hb h => by
        have hn1 := h.len
        have := symDefine_any (fun _ => True) [lispPk] (manyP (199 + z)) A1 A2 n1 c1 (199 + z) c2 W h ((hown.rd.under hb).mono fun _ _ _ => trivial) (by omega) (by rw [← hn1]; simp) (Nat.le_of_ble_eq_true rfl) (fun s hs => by
          obtain ⟨i, hi, rfl⟩ := List.mem_map.1 hs
          have hi := List.mem_range.1 hi
          have hq := (manyS_len (i := i) (by omega)).2
          exact ⟨Nat.le_of_ble_eq_true rfl, Nat.le_trans hq (by omega)⟩)
        refine this.mono fun e w' h => ?_
        have h2 := h.two
        rw [HD.out] at h2
        exact h2
      clear hl
      have hd : Below wr.heap.size wr wr.drew := (Below.refl _ _).drew
      go_upto_region 9 with (fail)
      have hcase : (200 < 199 + z ∧ z = 2) ∨ (¬ 200 < 199 + z ∧ z ≤ 1) := by omega
      rcases hcase with ⟨hc, hz2⟩ | ⟨hc, hz1⟩
      · rw [if_pos hc] at HDf
        clear hc
        subst hz2
        go_region_held3 (fun w' => w'.cell? ⟨v1.heap.size, 0, none⟩ = some (str [109, 97, 110, 121]) ∧ w'.cell? ⟨v1.heap.size, 1, none⟩ = some (.slice A2 (199 + 2) c2)) (go_keep)
          (first | (go_at_call 15; refine (symInitial_any _).mono ?_; rintro e w1 ⟨A1, n1, c1, rfl, h1, hb1⟩; have d1 := then_ hd hb1; obtain ⟨y0, y1, _, _, y2⟩ := (HB.out.below d1).two; have HDw := Lib.hid (HDf.out w1 A1 n1 c1 d1 (h1.mono fun _ _ _ => trivial))) | (go_at_call 19; refine HDw.out.mono ?_; rintro e w5 ⟨A5, n5, c5, rfl, hb5⟩; obtain ⟨q0, q1, _, _, q2⟩ := (HB.out.below (then_ d1 hb5)).two))
        go_wp2
        go_ret
        exact ⟨rfl, then_ hb (then_ d1 hb5)⟩
      · rw [if_neg hc] at HDf
        have hz3 : ¬ (200 : Int) < 199 + (z : Int) := by omega
        have hz4 : decide ((200 : Int) < 199 + (z : Int)) = false := by simp; omega
        go_region_held3 (fun w' => w'.cell? ⟨v1.heap.size, 0, none⟩ = some (str [109, 97, 110, 121]) ∧ w'.cell? ⟨v1.heap.size, 1, none⟩ = some (.slice A2 (199 + z) c2)) (go_keep)
          (first | (go_at_call 15; refine (symInitial_any _).mono ?_; rintro e w1 ⟨A1, n1, c1, rfl, h1, hb1⟩; have d1 := then_ hd hb1; obtain ⟨y0, y1, _, _, y2⟩ := (HB.out.below d1).two; have HDw := Lib.hid (HDf.out w1 A1 n1 c1 d1 (h1.mono fun _ _ _ => trivial))) | (go_at_call 19; refine HDw.out.mono ?_; rintro e w5 ⟨A5, n5, c5, rfl, hb5⟩; obtain ⟨q0, q1, _, _, q2⟩ := (HB.out.below (then_ d1 hb5)).two))
        go_wp2
        go_ret
        exact ⟨rfl, then_ hb (then_ d1 hb5)⟩
theorem many_card (w : World) (ht : Tab w) (m : Int) (h0 : -9223372036854775808 ≤ m) (h1 : m ≤ 9223372036854775807) :
    Calls Tryd.prog 5 #[.int .i64 m] w (RetTrue4 w) :=
  many_main m (m % 3).toNat (by omega) w ht h0 h1 (Lib.hid (by omega))
end Go.Proofs.YtjefhgmnjfclaabDoor
