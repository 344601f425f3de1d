/- lispproverlaw2.first returns true; object.Compare at a string and a symbol. -/
import Derived.Test.YtcdgckbdplkdbaaGreatDoorJU
import Derived.Test.YtcdgckbdplkdbaaGreatDoorJR
namespace Go.Proofs.YtcdgckbdplkdbaaGreatDoor
open Go.RowKit

/-- numerator and denominator as strings -/
def sn (q : Rat) : List UInt8 := Lib.itoa q.num
def sd (q : Rat) : List UInt8 := Lib.itoa (q.den : Int)
abbrev nv (q : Rat) (A : Option Addr) (c : Nat) : Value := objV (numO (sn q) (sd q)) (.slice A 0 c)
def RetN (q : Rat) (w : World) (e : Ending) (w' : World) : Prop := ∃ (A : Option Addr) (c : Nat), e = .returned (nv q A c) ∧ Below w.heap.size w w'
theorem wfN {p : Rat} {k : Nat} (bp : Rb k p) (hk : k ≤ 10000) : (numO (sn p) (sd p)).Wf := by
  have h1 := bp.nlen
  have h2 := bp.dlen
  refine .mk _ ?_ ?_ ?_ ?_ ?_ ?_ ?_ ?_ ?_
  · show (-9223372036854775808 : Int) ≤ 1; omega
  · show (1 : Int) ≤ 9223372036854775807; omega
  · show (Lib.itoa p.num).length ≤ _; omega
  · show (Lib.itoa (p.den : Int)).length ≤ _; omega
  · exact Nat.zero_le _
  · exact Nat.zero_le _
  · exact Nat.zero_le _
  · exact Nat.zero_le _
  · intro x hx; cases hx
theorem oppositeN {p : Rat} {k : Nat} (bp : Rb k p) (hk : k ≤ 10000) (A : Option Addr) (c : Nat) (w : World) (ht : Tab w) : Calls Tryz.prog 50 #[nv p A c] w (RetN (-p) w) := oOpposite_any (ratO p) p (Val.rat p) bp hk A 0 c rfl w ht
theorem reciprocalN {p : Rat} {k : Nat} (bp : Rb k p) (hk : k ≤ 10000) (A : Option Addr) (c : Nat) (w : World) (ht : Tab w) : Calls Tryz.prog 52 #[nv p A c] w (RetN p⁻¹ w) := oReciprocal_any (ratO p) p (Val.rat p) bp hk A 0 c rfl w ht
theorem sumN {p q : Rat} {k m : Nat} (bp : Rb k p) (bq : Rb m q) (hk : k ≤ 10000) (hm : m ≤ 10000) (A A' : Option Addr) (c c' : Nat) (w : World) (ht : Tab w) : Calls Tryz.prog 46 #[nv p A c, nv q A' c'] w (RetN (p + q) w) := oSum_any (ratO p) (ratO q) p q (Val.rat p) (Val.rat q) bp bq hk hm A A' 0 0 c c' rfl rfl w ht
theorem productN {p q : Rat} {k m : Nat} (bp : Rb k p) (bq : Rb m q) (hk : k ≤ 10000) (hm : m ≤ 10000) (A A' : Option Addr) (c c' : Nat) (w : World) (ht : Tab w) : Calls Tryz.prog 48 #[nv p A c, nv q A' c'] w (RetN (p * q) w) := oProduct_any (ratO p) (ratO q) p q (Val.rat p) (Val.rat q) bp bq hk hm A A' 0 0 c c' rfl rfl w ht
theorem lessN {p q : Rat} {k m : Nat} (bp : Rb k p) (bq : Rb m q) (hk : k ≤ 10000) (hm : m ≤ 10000) (A A' : Option Addr) (c c' : Nat) (w : World) (ht : Tab w) : Calls Tryz.prog 44 #[nv p A c, nv q A' c'] w (RetBel (.bool (decide (p < q))) w) := oLess_any (ratO p) (ratO q) p q (Val.rat p) (Val.rat q) bp bq hk hm A A' 0 0 c c' rfl rfl w ht
theorem equalN {p q : Rat} {k : Nat} (bp : Rb k p) (hk : k ≤ 10000) (A A' : Option Addr) (c c' : Nat) (w : World) : Calls Tryz.prog 14 #[nv p A c, nv q A' c'] w (RetBel (.bool (decide (p = q))) w) := by
  refine (oEqual_any (fun _ => True) (fun _ => True) (ratO p).size (ratO p) (ratO q) (Nat.le_refl _) (wfN bp hk) A A' 0 0 c c' w (.nil _ _) (.nil _ _)).mono ?_
  rintro e w1 ⟨b, rfl, hb, h⟩
  refine ⟨?_, h⟩
  rw [ratO_inj] at hb
  congr 2
  cases b with
  | true => rw [decide_eq_true (hb.1 rfl)]
  | false => rw [decide_eq_false (fun e => by have := hb.2 e; cases this)]
theorem intN (n : Int) (w : World) (ht : Tab w) (h0 : -9223372036854775808 ≤ n) (h1 : n ≤ 9223372036854775807) : Calls Tryz.prog 19 #[.int .i64 n] w (RetN (n : Rat) w) := by
  have := oInt_any n w ht h0 h1
  rw [← ratO_int] at this
  exact this.mono fun _ _ h => ⟨none, 0, h.1, h.2⟩
theorem rationalN (a b : List UInt8) (w : World) (ha : a.length ≤ 1100000) (hb : b.length ≤ 1100000) (ht : Tab w) : Calls Tryz.prog 18 #[str a, str b] w (RetN (Rat.divInt (Dec.dval a) (Dec.dval b)) w) :=
  (oRationalQ a b w ha hb ht).mono fun _ _ h => ⟨none, 0, h.1, h.2⟩

theorem oRank3 (w : World) : Calls Tryz.prog 69 #[.int .i64 3] w (RetPureV (.int .i64 1) w) := by
  go_enter Tryz.func69, Tryz.ntmps69
  go_wp2
  go_ret
  exact ⟨rfl, rfl⟩
theorem oRank2 (w : World) : Calls Tryz.prog 69 #[.int .i64 2] w (RetPureV (.int .i64 2) w) := by
  go_enter Tryz.func69, Tryz.ntmps69
  go_wp2
  go_ret
  exact ⟨rfl, rfl⟩
set_option maxHeartbeats 1000000 in
set_option maxRecDepth 100000 in
theorem oCompare_first (A A' : Option Addr) (c c' : Nat) (w : World) : Calls Tryz.prog 32 #[objV (txtO [98]) (.slice A 0 c), objV tO (.slice A' 0 c')] w (RetBel (.int .i64 (-1)) w) := by
  have HC : Hid (∀ w' : World, Calls Tryz.prog 68 #[objV (txtO [98]) (.slice A 0 c)] w' (RetBel (.bool false) w')) := fun w' => oIsCons_any (txtO [98]) A 0 c w' (by omega)
  go_enter Tryz.func32, Tryz.ntmps32
  go_wp2
  go_loopw [4] (fun lv wr => lv = .int .i64 0 ∧ Hid (BlkIs wr w.heap.size 26 (obCells (txtO [98]) (.slice A 0 c))) ∧ Hid (BlkIs wr (w.heap.size + 1) 26 (obCells tO (.slice A' 0 c'))) ∧ Below w.heap.size w wr) (fun _ _ => 0)
  case atStart => exact ⟨rfl, Lib.hid ((BlkIs.new w _ _).alloc _), Lib.hid (BlkIs.new1 w _ _ _), box2 (box _ _) _⟩
  case round =>
    obtain ⟨rfl, X, Y, hb⟩ := hrel
    obtain ⟨x0, x1, x2, x3, x4, x5, x6, xl⟩ := X.out.seven
    go_wp2_with fail
    refine (HC.out _).mono ?_
    rintro e w1 ⟨rfl, hb1⟩
    have b0 := (then_ hb hb1).drew
    have X0' := Lib.hid (X.out.below hb1)
    have Y0' := Lib.hid (Y.out.below hb1)
    have X0 := Lib.hid X0'.out.drew
    have Y0 := Lib.hid Y0'.out.drew
    clear x0 x1 x2 x3 x4 x5 x6
    obtain ⟨y0, y1, y2, y3, y4, y5, y6, yl⟩ := X0'.out.seven
    obtain ⟨z0, z1, z2, z3, z4, z5, z6, zl⟩ := Y0'.out.seven
    go_upto_region 6 with (fail)
    go_region_held3 (fun w' => w'.cell? ⟨w.heap.size, 0, none⟩ = some (.int .i64 3) ∧ w'.cell? ⟨w.heap.size + 1, 0, none⟩ = some (.int .i64 2)) (go_keep)
      (first | (go_at_call 69; ((with_reducible refine (oRank3 _).mono ?_)); rintro e v1 ⟨rfl, rfl⟩) | (go_at_call 69; ((with_reducible refine (oRank2 _).mono ?_)); rintro e v2 ⟨rfl, rfl⟩))
    go_wp2
    go_ret
    exact ⟨rfl, b0⟩
theorem rd_two {a d : Ob} {A A' : Option Addr} {n n' c c' : Nat} {w : World} {t : TypeId} (ha : Rd (fun _ => True) w (.slice A n c) (.row (a.pair.map Ob.enc))) (hd : Rd (fun _ => True) w (.slice A' n' c') (.row (d.pair.map Ob.enc))) :
    Rd (fun _ => True) (w.alloc (.cells #[.int .i64 a.kind, str a.num, str a.den, str a.sp, str a.sn, str a.text, .slice A n c, .int .i64 d.kind, str d.num, str d.den, str d.sp, str d.sn, str d.text, .slice A' n' c'] t)) (.slice (some ⟨w.heap.size, 0, none⟩) 2 2) (.row ([a, d].map Ob.enc)) :=
  rd_pair (BlkIs.new _ _ _) trivial (ha.under (box _ _)) (hd.under (box _ _))
abbrev oneO : Ob := numO [49] [49]
abbrev firstO : Ob := consO oneO (consO (txtO [97]) nilO)
theorem first_list : listO [oneO, txtO [97]] = firstO := rfl
theorem first_good : Good firstO := .cons .one (.cons .txt .nil)
theorem first_wf : firstO.Wf := by
  have hn : nilO.Wf := .mk _ (by decide) (by decide) (by decide) (by decide) (by decide) (by decide) (by decide) (by decide) (fun x hx => by cases hx)
  have ht : (txtO [97]).Wf := .mk _ (by decide) (by decide) (by decide) (by decide) (by decide) (by decide) (by decide) (by decide) (fun x hx => by cases hx)
  have ho : oneO.Wf := .mk _ (by decide) (by decide) (by decide) (by decide) (by decide) (by decide) (by decide) (by decide) (fun x hx => by cases hx)
  have hc : (consO (txtO [97]) nilO).Wf := .mk _ (by decide) (by decide) (by decide) (by decide) (by decide) (by decide) (by decide) (by decide) (fun x hx => by
    simp only [List.mem_cons, List.not_mem_nil, or_false] at hx
    rcases hx with rfl | rfl <;> assumption)
  exact .mk _ (by decide) (by decide) (by decide) (by decide) (by decide) (by decide) (by decide) (by decide) (fun x hx => by
    simp only [List.mem_cons, List.not_mem_nil, or_false] at hx
    rcases hx with rfl | rfl <;> assumption)
/-- only one way down -/
theorem Tail.det {o x : Ob} {l : List Ob} (h : Tail o l x) (hx : ¬ ConsO x) (ho : o = firstO) : l = [oneO, txtO [97]] ∧ x = nilO := by
  have key : ∀ {o x : Ob} {l : List Ob}, Tail o l x → o = firstO → (l = [] ∧ x = firstO) ∨ (l = [oneO] ∧ x = consO (txtO [97]) nilO) ∨ (l = [oneO, txtO [97]] ∧ x = nilO) := by
    intro o x l h
    induction h with
    | refl => intro e; exact .inl ⟨rfl, e⟩
    | step h hk hp ih =>
      intro e
      rcases ih e with ⟨rfl, rfl⟩ | ⟨rfl, rfl⟩ | ⟨rfl, rfl⟩
      · injection hp with h1 h2
        injection h2 with h2
        exact .inr (.inl ⟨by rw [← h1]; rfl, h2.symm⟩)
      · injection hp with h1 h2
        injection h2 with h2
        exact .inr (.inr ⟨by rw [← h1]; rfl, h2.symm⟩)
      · cases hk
  rcases key h ho with ⟨_, rfl⟩ | ⟨_, rfl⟩ | h
  · exact absurd ⟨rfl, rfl⟩ hx
  · exact absurd ⟨rfl, rfl⟩ hx
  · exact h
def RetTrue2 (w : World) (e : Ending) (w' : World) : Prop := e = .returned (.bool true) ∧ Below w.heap.size w w'
set_option maxHeartbeats 2000000 in
set_option maxRecDepth 100000 in
theorem first2_any (w : World) (ht : Tab w) : Calls Tryz.prog 9 #[] w (RetTrue2 w) := by
  have HI : Hid (∀ w' : World, Tab w' → Calls Tryz.prog 19 #[.int .i64 1] w' (RetLeaf oneO w')) := fun w' h => by
    have := oInt_any 1 w' h (by omega) (by omega)
    rwa [itoa_one] at this
  have H12 : Hid (∀ w' : World, Tab w' → Calls Tryz.prog 18 #[str [49], str [50]] w' (RetN (Rat.divInt 1 2) w')) := fun w' h => by
    have := rationalN [49] [50] w' (by decide) (by decide) h
    rwa [show Dec.dval [49] = 1 by decide +kernel, show Dec.dval [50] = 2 by decide +kernel] at this
  have H13 : Hid (∀ w' : World, Tab w' → Calls Tryz.prog 18 #[str [49], str [51]] w' (RetN (Rat.divInt 1 3) w')) := fun w' h => by
    have := rationalN [49] [51] w' (by decide) (by decide) h
    rwa [show Dec.dval [49] = 1 by decide +kernel, show Dec.dval [51] = 3 by decide +kernel] at this
  have H56 : Hid (∀ w' : World, Tab w' → Calls Tryz.prog 18 #[str [53], str [54]] w' (RetN (Rat.divInt 5 6) w')) := fun w' h => by
    have := rationalN [53] [54] w' (by decide) (by decide) h
    rwa [show Dec.dval [53] = 5 by decide +kernel, show Dec.dval [54] = 6 by decide +kernel] at this
  have b12 : Rb 1 (Rat.divInt 1 2) := Rb.mk' (by decide) (by decide) (by decide)
  have b13 : Rb 1 (Rat.divInt 1 3) := Rb.mk' (by decide) (by decide) (by decide)
  have HS : Hid (∀ (A A' : Option Addr) (c c' : Nat) (w' : World), Tab w' → Calls Tryz.prog 46 #[nv (Rat.divInt 1 2) A c, nv (Rat.divInt 1 3) A' c'] w' (RetN (Rat.divInt 5 6) w')) := fun A A' c c' w' h => by
    have := sumN b12 b13 (by omega) (by omega) A A' c c' w' h
    rwa [show Rat.divInt 1 2 + Rat.divInt 1 3 = Rat.divInt 5 6 by rw [Rat.divInt_add_divInt _ _ (by decide) (by decide)]; rfl] at this
  have HE : Hid (∀ (A A' : Option Addr) (c c' : Nat) (w' : World), Calls Tryz.prog 14 #[nv (Rat.divInt 5 6) A c, nv (Rat.divInt 5 6) A' c'] w' (RetBel (.bool true) w')) := fun A A' c c' w' => by
    have := equalN (p := Rat.divInt 5 6) (q := Rat.divInt 5 6) (k := 1) (Rb.mk' (by decide) (by decide) (by decide)) (by omega) A A' c c' w'
    rwa [decide_eq_true rfl] at this
  clear b12 b13
  generalize Rat.divInt 1 2 = q1 at *
  generalize Rat.divInt 1 3 = q2 at *
  generalize Rat.divInt 5 6 = q3 at *
  go_enter Tryz.func9, Tryz.ntmps9
  go_wp2_with fail
  refine (HI.out _ ht).mono ?_
  rintro e w1 ⟨rfl, b1⟩
  go_wp2_with fail
  refine (oText_any _ [97]).mono ?_
  rintro e w2 ⟨rfl, hb2⟩
  have b2 := then_ b1 hb2
  go_wp2_with fail
  refine (oList_any (fun _ => True) [oneO, txtO [97]] _ 2 2 _ (rd_two (a := oneO) (d := txtO [97]) (.nil _ _) (.nil _ _)) (by omega)).mono ?_
  rintro e w3 ⟨A3, n3, c3, rfl, hr3, hb3⟩
  have b3 : Below w.heap.size w w3 := via2 b2 hb3
  rw [first_list] at hr3 ⊢
  have hr3' : Rd (fun _ => True) w3 (.slice A3 n3 c3) (.row (firstO.pair.map Ob.enc)) := hr3.mono fun _ _ _ => trivial
  clear hr3 hb3
  have X4 := Lib.hid (BlkIs.new w3 26 (obCells firstO (.slice A3 n3 c3)))
  have b4 := box2 b3 (.cells (obCells firstO (.slice A3 n3 c3)) 26)
  have hr4 := hr3'.alloc (.cells (obCells firstO (.slice A3 n3 c3)) 26)
  go_wp2_with fail
  generalize w3.alloc (.cells (obCells firstO (.slice A3 n3 c3)) 26) = w4 at *
  refine (oItems_any (fun _ => True) firstO A3 n3 c3 w4 hr4 (by decide) first_wf).mono ?_
  rintro e w5 ⟨l, x, hT, hx, hb5, h5⟩
  obtain ⟨rfl, rfl⟩ := hT.det hx rfl
  rcases h5 with ⟨_, A5, n5, c5, rfl, hr5⟩ | ⟨h5, _⟩
  case inr => exact absurd ⟨rfl, rfl, rfl⟩ h5
  obtain rfl : n5 = 2 := by have := hr5.len; simpa using this.symm
  have b5 := then_ b4 hb5
  have X5 := Lib.hid (X4.out.below hb5)
  have hr5' := hr4.under hb5
  obtain ⟨x0, x1, x2, x3, x4, x5, x6, xl⟩ := X5.out.seven
  go_wp2_with fail
  refine (oNodes_any (fun _ => True) firstO A3 n3 c3 w5 hr5').mono ?_
  rintro e w6 ⟨rfl, hb6⟩
  rw [show nodesP firstO = 5 by decide +kernel]
  have b6 := then_ b5 hb6
  have X6 := Lib.hid (X5.out.below hb6)
  have hr6 := hr5'.under hb6
  clear x0 x1 x2 x3 x4 x5 x6
  obtain ⟨y0, y1, y2, y3, y4, y5, y6, yl⟩ := X6.out.seven
  go_wp2_with fail
  refine (valid_good (fun _ => True) firstO first_good (by decide +kernel) A3 n3 c3 w6 (ht.below b6) hr6).mono ?_
  rintro e w7 ⟨rfl, hb7⟩
  have b7 := then_ b6 hb7
  clear y0 y1 y2 y3 y4 y5 y6
  go_wp2_with fail
  refine (H12.out _ (ht.below b7)).mono ?_
  rintro e w8 ⟨A8, c8, rfl, hb8⟩
  have b8 := then_ b7 hb8
  go_wp2_with fail
  refine (H13.out _ (ht.below b8)).mono ?_
  rintro e w9 ⟨A9, c9, rfl, hb9⟩
  have b9 := then_ b8 hb9
  go_wp2_with fail
  refine (HS.out _ _ _ _ _ (ht.below b9)).mono ?_
  rintro e w10 ⟨A10, c10, rfl, hb10⟩
  have b10 := then_ b9 hb10
  go_wp2_with fail
  refine (H56.out _ (ht.below b10)).mono ?_
  rintro e w11 ⟨A11, c11, rfl, hb11⟩
  have b11 := then_ b10 hb11
  go_wp2_with fail
  refine (HE.out _ _ _ _ _).mono ?_
  rintro e w12 ⟨rfl, hb12⟩
  have b12 := then_ b11 hb12
  go_wp2_with fail
  refine (oText_any _ [98]).mono ?_
  rintro e w13 ⟨rfl, hb13⟩
  have b13 := then_ b12 hb13
  go_wp2_with fail
  refine (oT_any _).mono ?_
  rintro e w14 ⟨rfl, hb14⟩
  have b14 := then_ b13 hb14
  go_wp2_with fail
  refine (oCompare_first _ _ _ _ _).mono ?_
  rintro e w15 ⟨rfl, hb15⟩
  have b15 := then_ b14 hb15
  go_wp2_with fail
  refine (oNil_any _).mono ?_
  rintro e w16 ⟨rfl, hb16⟩
  have b16 := then_ b15 hb16
  go_wp2_with fail
  refine (oIsNil_any nilO none 0 0 _).mono ?_
  rintro e w17 ⟨rfl, hb17⟩
  rw [decide_eq_true ⟨rfl, rfl, rfl⟩]
  go_wp2
  go_ret
  exact ⟨rfl, then_ b16 hb17⟩
end Go.Proofs.YtcdgckbdplkdbaaGreatDoor
