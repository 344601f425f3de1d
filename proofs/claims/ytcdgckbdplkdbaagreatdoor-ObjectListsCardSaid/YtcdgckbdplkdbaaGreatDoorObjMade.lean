/- lispproverlaw2.ObjectMade returns true. -/
import Derived.Test.YtcdgckbdplkdbaaGreatDoorObjCmp
namespace Go.Proofs.YtcdgckbdplkdbaaGreatDoor
open Go.RowKit

theorem leaf_wf {o : Ob} (h0 : -9223372036854775808 ≤ o.kind) (h1 : o.kind ≤ 9223372036854775807) (hn : o.num.length ≤ 9223372036854775807) (hd : o.den.length ≤ 9223372036854775807) (hp : o.sp.length ≤ 9223372036854775807) (hs : o.sn.length ≤ 9223372036854775807) (ht : o.text.length ≤ 9223372036854775807) (hl : o.pair = []) : o.Wf :=
  .mk o h0 h1 hn hd hp hs ht (by rw [hl]; exact Nat.zero_le _) (by rw [hl]; intro x hx; cases hx)
theorem cons_wf {a d : Ob} (ha : a.Wf) (hd : d.Wf) : (consO a d).Wf :=
  .mk (consO a d) (by show (-9223372036854775808 : Int) ≤ 4; omega) (by show (4 : Int) ≤ _; omega) (Nat.zero_le _) (Nat.zero_le _) (Nat.zero_le _) (Nat.zero_le _) (Nat.zero_le _) (by show 2 ≤ 9223372036854775807; omega) (fun x hx => by
    simp only [List.mem_cons, List.not_mem_nil, or_false] at hx
    rcases hx with rfl | rfl <;> assumption)
theorem equalLeaf {o : Ob} (hw : o.Wf) (hl : o.pair = []) (w : World) : Calls Tryz.prog 15 #[objV o (.slice none 0 0), objV o (.slice none 0 0)] w (RetBel (.bool true) w) :=
  rEqual_yes (ok := fun _ => True) (ok' := fun _ => True) hw (by rw [hl]; exact .nil _ _) (by rw [hl]; exact .nil _ _)
set_option maxHeartbeats 1000000 in
theorem made_long0 (w : World) (ht : Tab w) (z : Int) (nu : List UInt8) (hnu : nu.length ≤ 9223372036854775807) (de : List UInt8) (t : List UInt8) (px py : List UInt8) (r : Raw) (A : Option Addr) (n c : Nat) (hc : ¬ nu.length ≤ 25) :
    Calls Tryz.prog 4 #[.int .i64 z, str nu, str de, str t, .agg #[str px, str py], rawV r (.slice A n c)] w (RetTrue2 w) := by
  go_enter Tryz.func4, Tryz.ntmps4
  go_wp2_with fail
  have b0 := box2 (box w (.cells #[str px, str py] 23)) (.cells (rawCells r (.slice A n c)) 33)
  generalize (w.alloc (.cells #[str px, str py] 23)).alloc (.cells (rawCells r (.slice A n c)) 33) = w0 at *
  refine (first2_any _ (ht.below b0)).mono ?_
  rintro e w1 ⟨rfl, hb1⟩
  have b1 := then_ b0 hb1
  go_wp2
  go_ret
  exact ⟨rfl, b1⟩
set_option maxHeartbeats 1000000 in
theorem made_long1 (w : World) (ht : Tab w) (z : Int) (nu : List UInt8) (hnu : nu.length ≤ 9223372036854775807) (de : List UInt8) (hde : de.length ≤ 9223372036854775807) (t : List UInt8) (px py : List UInt8) (r : Raw) (A : Option Addr) (n c : Nat) (h1 : nu.length ≤ 25) (hc : ¬ de.length ≤ 25) :
    Calls Tryz.prog 4 #[.int .i64 z, str nu, str de, str t, .agg #[str px, str py], rawV r (.slice A n c)] w (RetTrue2 w) := by
  go_enter Tryz.func4, Tryz.ntmps4
  go_wp2_with fail
  have b0 := box2 (box w (.cells #[str px, str py] 23)) (.cells (rawCells r (.slice A n c)) 33)
  generalize (w.alloc (.cells #[str px, str py] 23)).alloc (.cells (rawCells r (.slice A n c)) 33) = w0 at *
  refine (first2_any _ (ht.below b0)).mono ?_
  rintro e w1 ⟨rfl, hb1⟩
  have b1 := then_ b0 hb1
  go_wp2
  go_ret
  exact ⟨rfl, b1⟩
set_option maxHeartbeats 1000000 in
theorem made_long2 (w : World) (ht : Tab w) (z : Int) (nu : List UInt8) (hnu : nu.length ≤ 9223372036854775807) (de : List UInt8) (hde : de.length ≤ 9223372036854775807) (t : List UInt8) (htx : t.length ≤ 9223372036854775807) (px py : List UInt8) (r : Raw) (A : Option Addr) (n c : Nat) (h1 : nu.length ≤ 25) (h2 : de.length ≤ 25) (hc : ¬ t.length ≤ 300) :
    Calls Tryz.prog 4 #[.int .i64 z, str nu, str de, str t, .agg #[str px, str py], rawV r (.slice A n c)] w (RetTrue2 w) := by
  go_enter Tryz.func4, Tryz.ntmps4
  go_wp2_with fail
  have b0 := box2 (box w (.cells #[str px, str py] 23)) (.cells (rawCells r (.slice A n c)) 33)
  generalize (w.alloc (.cells #[str px, str py] 23)).alloc (.cells (rawCells r (.slice A n c)) 33) = w0 at *
  refine (first2_any _ (ht.below b0)).mono ?_
  rintro e w1 ⟨rfl, hb1⟩
  have b1 := then_ b0 hb1
  go_wp2
  go_ret
  exact ⟨rfl, b1⟩
set_option maxHeartbeats 16000000 in
set_option maxRecDepth 100000 in
theorem made_main (w : World) (ht : Tab w) (z : Int) (hz0 : -9223372036854775808 ≤ z) (hz1 : z ≤ 9223372036854775807) (nu : List UInt8) (hnu : nu.length ≤ 9223372036854775807) (de : List UInt8) (hde : de.length ≤ 9223372036854775807) (t : List UInt8) (htx : t.length ≤ 9223372036854775807) (px py : List UInt8) (hpx : px.length ≤ 9223372036854775807) (hpy : py.length ≤ 9223372036854775807) (r : Raw) (hw : r.Wf) (A : Option Addr) (n c : Nat) (hP : Rd (fun _ => True) w (.slice A n c) (.row (r.l.map Raw.enc))) (h1 : nu.length ≤ 25) (h2 : de.length ≤ 25) (h3 : t.length ≤ 300) :
    Calls Tryz.prog 4 #[.int .i64 z, str nu, str de, str t, .agg #[str px, str py], rawV r (.slice A n c)] w (RetTrue2 w) := by
  obtain ⟨q, hq⟩ : ∃ q, q = Rat.divInt (Dec.dval nu) (Dec.dval de) := ⟨_, rfl⟩
  have bq : Rb 25 q := by rw [hq]; exact Rb.mk' (by omega) (dval_lt18 h1) (dval_lt18 h2)
  have hzi : (Lib.itoa z).length ≤ 20 := itoa_length_any z (k := 19) (by omega) (by omega)
  have K1 : Hid (∀ w' : World, Below w.heap.size w w' → Calls Tryz.prog 19 #[.int .i64 z] w' (RetLeaf (numO (Lib.itoa z) [49]) w')) := fun w' hb => oInt_any z w' (ht.below hb) hz0 hz1
  have K2 : Hid (∀ w' : World, Below w.heap.size w w' → Calls Tryz.prog 20 #[.int .i64 z] w' (RetLeaf (numO (Lib.itoa z) [49]) w')) := fun w' hb => by
    rw [← ratO_int]; exact rInt_any z w' (ht.below hb) hz0 hz1
  have K3 := Lib.hid (fun w' => equalLeaf (o := numO (Lib.itoa z) [49]) (leaf_wf (by show (-9223372036854775808 : Int) ≤ 1; omega) (by show (1 : Int) ≤ _; omega) (by show (Lib.itoa z).length ≤ _; omega) (by show 1 ≤ 9223372036854775807; omega) (Nat.zero_le _) (Nat.zero_le _) (Nat.zero_le _) rfl) rfl w')
  have K0 : Hid (∀ w' : World, Below w.heap.size w w' → Calls Tryz.prog 18 #[str nu, str de] w' (RetLeaf (ratO q) w')) := fun w' hb => by rw [hq]; exact oRationalQ nu de w' (by omega) (by omega) (ht.below hb)
  have K4 : Hid (∀ w' : World, Calls Tryz.prog 21 #[str nu, str de] w' (RetLeaf (ratO q) w')) := fun w' => by rw [hq]; exact rRationalQ nu de w' (by omega) (by omega)
  have wq : (ratO q).Wf := wfN bq (by omega)
  have K5 := Lib.hid (fun w' => equalLeaf wq rfl w')
  have K6 : Hid (∀ w' : World, Calls Tryz.prog 22 #[str t] w' (RetLeaf (txtO t) w')) := fun w' => oText_any w' t
  have K7 : Hid (∀ w' : World, Calls Tryz.prog 23 #[str t] w' (RetLeaf (txtO t) w')) := fun w' => rText_any w' t
  have K8 := Lib.hid (fun w' => equalLeaf (o := txtO t) (leaf_wf (by show (-9223372036854775808 : Int) ≤ 3; omega) (by show (3 : Int) ≤ _; omega) (Nat.zero_le _) (Nat.zero_le _) (Nat.zero_le _) (Nat.zero_le _) htx rfl) rfl w')
  have K9 : Hid (∀ w' : World, Calls Tryz.prog 24 #[.agg #[str px, str py]] w' (RetLeaf (symO px py) w')) := fun w' => oSymbol_any w' px py
  have K10 : Hid (∀ w' : World, Calls Tryz.prog 25 #[.agg #[str px, str py]] w' (RetLeaf (symO px py) w')) := fun w' => rSymbol_any w' px py
  have K11 := Lib.hid (fun w' => equalLeaf (o := symO px py) (leaf_wf (by show (-9223372036854775808 : Int) ≤ 2; omega) (by show (2 : Int) ≤ _; omega) (Nat.zero_le _) (Nat.zero_le _) hpx hpy (Nat.zero_le _) rfl) rfl w')
  have K15 : Hid (∀ w' : World, Calls Tryz.prog 28 #[] w' (RetLeaf nilO w')) := fun w' => oNil_any w'
  have K16 : Hid (∀ w' : World, Calls Tryz.prog 29 #[] w' (RetLeaf nilO w')) := fun w' => rNil_any w'
  have K17 := Lib.hid (fun w' => equalLeaf nil_wf rfl w')
  have K18 : Hid (∀ w' : World, Calls Tryz.prog 30 #[] w' (RetLeaf tO w')) := fun w' => oT_any w'
  have K19 : Hid (∀ w' : World, Calls Tryz.prog 31 #[] w' (RetLeaf tO w')) := fun w' => rT_any w'
  have K20 := Lib.hid (fun w' => equalLeaf (o := tO) (leaf_wf (by decide) (by decide) (by decide) (by decide) (by decide) (by decide) (by decide) rfl) rfl w')
  have HWQ := Lib.hid wq
  clear hq bq hzi wq
  unfold ratO at K0 K4 K5 HWQ
  generalize Lib.itoa q.num = qn at *
  generalize Lib.itoa (q.den : Int) = qd at *
  generalize Lib.itoa z = zi at *
  go_enter Tryz.func4, Tryz.ntmps4
  go_wp2_with fail
  have P0 := Lib.hid ((BlkIs.new w 23 #[str px, str py]).alloc (.cells (rawCells r (.slice A n c)) 33))
  have X0 := Lib.hid (BlkIs.new1 w (.cells #[str px, str py] 23) 33 (rawCells r (.slice A n c)))
  have b0 := box2 (box w (.cells #[str px, str py] 23)) (.cells (rawCells r (.slice A n c)) 33)
  generalize (w.alloc (.cells #[str px, str py] 23)).alloc (.cells (rawCells r (.slice A n c)) 33) = w0 at *
  refine (first2_any _ (ht.below b0)).mono ?_
  rintro e w1 ⟨rfl, hb1⟩
  have b1 := then_ b0 hb1
  have P1 := Lib.hid (P0.out.below hb1)
  have X1 := Lib.hid (X0.out.below hb1)
  obtain ⟨x0, x1, x2, x3, xl⟩ := X1.out.four
  go_wp2_with fail
  refine (few_any (fun _ => True) r hw A n c 30 _ (hP.under b1) (by omega)).mono ?_
  rintro e w2 ⟨bb, rfl, hbb, hb2⟩
  have b2 := then_ b1 hb2
  clear x0 x1 x2 x3 xl
  cases bb with
  | false =>
    clear hbb
    go_wp2
    go_ret
    exact ⟨rfl, b2⟩
  | true =>
    have HF := Lib.hid (hbb rfl)
    clear hbb
    have P2 := Lib.hid (P1.out.below hb2)
    have X2 := Lib.hid (X1.out.below hb2)
    obtain ⟨x0, x1, x2, x3, xl⟩ := X2.out.four
    have HO := Lib.hid (mkO_any (fun _ => True) r.size r (Nat.le_refl _) HF.out.1 hw A n c w2 (ht.below b2) (hP.under b2))
    have HWX : Hid (mkT r).ob.Wf := (mkT_ok r HF.out.1).wf (by omega)
    generalize (mkT r).ob = ox at *
    clear HF hP hw
    go_wp2_with fail
    refine HO.out.mono ?_
    rintro e w3 ⟨Ax, nx, cx, rfl, hrx, hb3⟩
    have b3 := then_ b2 hb3
    have P3 := Lib.hid (P2.out.below hb3)
    clear x0 x1 x2 x3 xl X0 X1 X2 P0 P1 P2 HO hb1 hb2 b0 b1
    go_wp2_with fail
    have X4 := Lib.hid (BlkIs.new w3 26 (obCells ox (.slice Ax nx cx)))
    have P4 := Lib.hid (P3.out.alloc (.cells (obCells ox (.slice Ax nx cx)) 26))
    have b4 := box2 b3 (.cells (obCells ox (.slice Ax nx cx)) 26)
    have hr4 := hrx.under (box w3 (.cells (obCells ox (.slice Ax nx cx)) 26))
    generalize w3.alloc (.cells (obCells ox (.slice Ax nx cx)) 26) = w4 at *
    generalize w3.heap.size = gx at *
    refine (K0.out _ b4).mono ?_
    rintro e w5 ⟨rfl, hb5⟩
    have b5 := then_ b4 hb5
    go_upto_region 7 with (fail)
    have X6 := Lib.hid ((X4.out.below hb5).alloc (.cells (obCells (numO qn qd) (.slice none 0 0)) 26))
    have P6 := Lib.hid ((P4.out.below hb5).alloc (.cells (obCells (numO qn qd) (.slice none 0 0)) 26))
    have F6 := Lib.hid (BlkIs.new w5 26 (obCells (numO qn qd) (.slice none 0 0)))
    have b6 := box2 b5 (.cells (obCells (numO qn qd) (.slice none 0 0)) 26)
    have hr6 : Rd (fun _ => True) (w5.alloc (.cells (obCells (numO qn qd) (.slice none 0 0)) 26)) (.slice Ax nx cx) (.row (ox.pair.map Ob.enc)) := ((hr4.under hb5).under (box w5 _)).mono fun _ _ _ => trivial
    generalize w5.alloc (.cells (obCells (numO qn qd) (.slice none 0 0)) 26) = w6 at *
    generalize w5.heap.size = gf at *
    clear K0 X4 P3 P4 b3 b4 b5 hrx hr4 hb5 hb3
    have b0 : Below w.heap.size w w6.drew := b6.drew
    have X0 := Lib.hid X6.out.drew
    have F0 := Lib.hid F6.out.drew
    have P0 := Lib.hid P6.out.drew
    have HR6 : Hid (∀ w' : World, Below w6.heap.size w6 w' → Rd (fun _ => True) w' (.slice Ax nx cx) (.row (ox.pair.map Ob.enc))) := fun w' hb' => hr6.under hb'
    have c0 : Below w6.heap.size w6 w6.drew := (Below.refl _ _).drew
    have K12 : Hid (∀ w' : World, Below w6.heap.size w6 w' → Calls Tryz.prog 26 #[objV ox (.slice Ax nx cx), objV (numO qn qd) (.slice none 0 0)] w' (RetObj (fun _ => True) (consO ox (numO qn qd)) w')) := fun w' hb' => oCons_any (fun _ => True) ox (numO qn qd) Ax none nx 0 cx 0 w' (HR6.out w' hb') (.nil _ _)
    have K13 : Hid (∀ w' : World, Below w6.heap.size w6 w' → Calls Tryz.prog 27 #[objV ox (.slice Ax nx cx), objV (numO qn qd) (.slice none 0 0)] w' (RetObj (fun _ => True) (consO ox (numO qn qd)) w')) := fun w' hb' => rCons_any (fun _ => True) ox (numO qn qd) Ax none nx 0 cx 0 w' (HR6.out w' hb') (.nil _ _)
    have K14 : Hid (∀ (A1 A2 : Option Addr) (n1 n2 c1 c2 : Nat) (ok ok' : Nat → Prop) (w' : World), Rd ok w' (.slice A1 n1 c1) (.row ((consO ox (numO qn qd)).pair.map Ob.enc)) → Rd ok' w' (.slice A2 n2 c2) (.row ((consO ox (numO qn qd)).pair.map Ob.enc)) → Calls Tryz.prog 15 #[objV (consO ox (numO qn qd)) (.slice A1 n1 c1), objV (consO ox (numO qn qd)) (.slice A2 n2 c2)] w' (RetBel (.bool true) w')) := fun A1 A2 n1 n2 c1 c2 ok ok' w' h1 h2 => rEqual_yes (cons_wf HWX.out HWQ.out) h1 h2
    clear hr6 HR6 HWX HWQ b2 b6
    obtain ⟨p0, p1, _, _, pl⟩ := P6.out.two
    obtain ⟨xs0, xs1, xs2, xs3, xs4, xs5, xs6, xsl⟩ := X6.out.seven
    obtain ⟨fs0, fs1, fs2, fs3, fs4, fs5, fs6, fsl⟩ := F6.out.seven
    go_region_held3 (fun w' => w'.cell? ⟨w.heap.size, 0, none⟩ = some (str px) ∧ w'.cell? ⟨w.heap.size, 1, none⟩ = some (str py) ∧ w'.cell? ⟨gx, 0, none⟩ = some (.int .i64 ox.kind) ∧ w'.cell? ⟨gx, 1, none⟩ = some (str ox.num) ∧ w'.cell? ⟨gx, 2, none⟩ = some (str ox.den) ∧ w'.cell? ⟨gx, 3, none⟩ = some (str ox.sp) ∧ w'.cell? ⟨gx, 4, none⟩ = some (str ox.sn) ∧ w'.cell? ⟨gx, 5, none⟩ = some (str ox.text) ∧ w'.cell? ⟨gx, 6, none⟩ = some (.slice Ax nx cx) ∧ w'.cell? ⟨gf, 0, none⟩ = some (.int .i64 1) ∧ w'.cell? ⟨gf, 1, none⟩ = some (str qn) ∧ w'.cell? ⟨gf, 2, none⟩ = some (str qd) ∧ w'.cell? ⟨gf, 3, none⟩ = some (str []) ∧ w'.cell? ⟨gf, 4, none⟩ = some (str []) ∧ w'.cell? ⟨gf, 5, none⟩ = some (str []) ∧ w'.cell? ⟨gf, 6, none⟩ = some (.slice none 0 0)) (first | ((refine ⟨?_, ?_, ?_, ?_, ?_, ?_, ?_, ?_, ?_, ?_, ?_, ?_, ?_, ?_, ?_, ?_⟩) <;> assumption) | go_keep)
      (first | (go_at_call 19; ((with_reducible refine (K1.out _ b0).mono ?_)); rintro e v1 ⟨rfl, hb1⟩; have b1 := then_ b0 hb1; have c1 := then_ c0 hb1; have X1 := Lib.hid (X0.out.below hb1); have F1 := Lib.hid (F0.out.below hb1); have P1 := Lib.hid (P0.out.below hb1); obtain ⟨xc1_0, xc1_1, xc1_2, xc1_3, xc1_4, xc1_5, xc1_6, xc1_l⟩ := X1.out.seven; obtain ⟨fc1_0, fc1_1, fc1_2, fc1_3, fc1_4, fc1_5, fc1_6, fc1_l⟩ := F1.out.seven; obtain ⟨pc1_0, pc1_1, _, _, pc1_l⟩ := P1.out.two) | (go_at_call 20; ((with_reducible refine (K2.out _ b1).mono ?_)); rintro e v2 ⟨rfl, hb2⟩; have b2 := then_ b1 hb2; have c2 := then_ c1 hb2; have X2 := Lib.hid (X1.out.below hb2); have F2 := Lib.hid (F1.out.below hb2); have P2 := Lib.hid (P1.out.below hb2); obtain ⟨xc2_0, xc2_1, xc2_2, xc2_3, xc2_4, xc2_5, xc2_6, xc2_l⟩ := X2.out.seven; obtain ⟨fc2_0, fc2_1, fc2_2, fc2_3, fc2_4, fc2_5, fc2_6, fc2_l⟩ := F2.out.seven; obtain ⟨pc2_0, pc2_1, _, _, pc2_l⟩ := P2.out.two; clear xc1_0 xc1_1 xc1_2 xc1_3 xc1_4 xc1_5 xc1_6 fc1_0 fc1_1 fc1_2 fc1_3 fc1_4 fc1_5 fc1_6 pc1_0 pc1_1) | (go_at_call 15; ((with_reducible refine (K3.out _).mono ?_)); rintro e v3 ⟨rfl, hb3⟩; have b3 := then_ b2 hb3; have c3 := then_ c2 hb3; have X3 := Lib.hid (X2.out.below hb3); have F3 := Lib.hid (F2.out.below hb3); have P3 := Lib.hid (P2.out.below hb3); obtain ⟨xc3_0, xc3_1, xc3_2, xc3_3, xc3_4, xc3_5, xc3_6, xc3_l⟩ := X3.out.seven; obtain ⟨fc3_0, fc3_1, fc3_2, fc3_3, fc3_4, fc3_5, fc3_6, fc3_l⟩ := F3.out.seven; obtain ⟨pc3_0, pc3_1, _, _, pc3_l⟩ := P3.out.two; clear xc2_0 xc2_1 xc2_2 xc2_3 xc2_4 xc2_5 xc2_6 fc2_0 fc2_1 fc2_2 fc2_3 fc2_4 fc2_5 fc2_6 pc2_0 pc2_1) | (go_at_call 21; ((with_reducible refine (K4.out _).mono ?_)); rintro e v4 ⟨rfl, hb4⟩; have b4 := then_ b3 hb4; have c4 := then_ c3 hb4; have X4 := Lib.hid (X3.out.below hb4); have F4 := Lib.hid (F3.out.below hb4); have P4 := Lib.hid (P3.out.below hb4); obtain ⟨xc4_0, xc4_1, xc4_2, xc4_3, xc4_4, xc4_5, xc4_6, xc4_l⟩ := X4.out.seven; obtain ⟨fc4_0, fc4_1, fc4_2, fc4_3, fc4_4, fc4_5, fc4_6, fc4_l⟩ := F4.out.seven; obtain ⟨pc4_0, pc4_1, _, _, pc4_l⟩ := P4.out.two; clear xc3_0 xc3_1 xc3_2 xc3_3 xc3_4 xc3_5 xc3_6 fc3_0 fc3_1 fc3_2 fc3_3 fc3_4 fc3_5 fc3_6 pc3_0 pc3_1) | (go_at_call 15; ((with_reducible refine (K5.out _).mono ?_)); rintro e v5 ⟨rfl, hb5⟩; have b5 := then_ b4 hb5; have c5 := then_ c4 hb5; have X5 := Lib.hid (X4.out.below hb5); have F5 := Lib.hid (F4.out.below hb5); have P5 := Lib.hid (P4.out.below hb5); obtain ⟨xc5_0, xc5_1, xc5_2, xc5_3, xc5_4, xc5_5, xc5_6, xc5_l⟩ := X5.out.seven; obtain ⟨fc5_0, fc5_1, fc5_2, fc5_3, fc5_4, fc5_5, fc5_6, fc5_l⟩ := F5.out.seven; obtain ⟨pc5_0, pc5_1, _, _, pc5_l⟩ := P5.out.two; clear xc4_0 xc4_1 xc4_2 xc4_3 xc4_4 xc4_5 xc4_6 fc4_0 fc4_1 fc4_2 fc4_3 fc4_4 fc4_5 fc4_6 pc4_0 pc4_1) | (go_at_call 22; ((with_reducible refine (K6.out _).mono ?_)); rintro e v6 ⟨rfl, hb6⟩; have b6 := then_ b5 hb6; have c6 := then_ c5 hb6; have X6 := Lib.hid (X5.out.below hb6); have F6 := Lib.hid (F5.out.below hb6); have P6 := Lib.hid (P5.out.below hb6); obtain ⟨xc6_0, xc6_1, xc6_2, xc6_3, xc6_4, xc6_5, xc6_6, xc6_l⟩ := X6.out.seven; obtain ⟨fc6_0, fc6_1, fc6_2, fc6_3, fc6_4, fc6_5, fc6_6, fc6_l⟩ := F6.out.seven; obtain ⟨pc6_0, pc6_1, _, _, pc6_l⟩ := P6.out.two; clear xc5_0 xc5_1 xc5_2 xc5_3 xc5_4 xc5_5 xc5_6 fc5_0 fc5_1 fc5_2 fc5_3 fc5_4 fc5_5 fc5_6 pc5_0 pc5_1) | (go_at_call 23; ((with_reducible refine (K7.out _).mono ?_)); rintro e v7 ⟨rfl, hb7⟩; have b7 := then_ b6 hb7; have c7 := then_ c6 hb7; have X7 := Lib.hid (X6.out.below hb7); have F7 := Lib.hid (F6.out.below hb7); have P7 := Lib.hid (P6.out.below hb7); obtain ⟨xc7_0, xc7_1, xc7_2, xc7_3, xc7_4, xc7_5, xc7_6, xc7_l⟩ := X7.out.seven; obtain ⟨fc7_0, fc7_1, fc7_2, fc7_3, fc7_4, fc7_5, fc7_6, fc7_l⟩ := F7.out.seven; obtain ⟨pc7_0, pc7_1, _, _, pc7_l⟩ := P7.out.two; clear xc6_0 xc6_1 xc6_2 xc6_3 xc6_4 xc6_5 xc6_6 fc6_0 fc6_1 fc6_2 fc6_3 fc6_4 fc6_5 fc6_6 pc6_0 pc6_1) | (go_at_call 15; ((with_reducible refine (K8.out _).mono ?_)); rintro e v8 ⟨rfl, hb8⟩; have b8 := then_ b7 hb8; have c8 := then_ c7 hb8; have X8 := Lib.hid (X7.out.below hb8); have F8 := Lib.hid (F7.out.below hb8); have P8 := Lib.hid (P7.out.below hb8); obtain ⟨xc8_0, xc8_1, xc8_2, xc8_3, xc8_4, xc8_5, xc8_6, xc8_l⟩ := X8.out.seven; obtain ⟨fc8_0, fc8_1, fc8_2, fc8_3, fc8_4, fc8_5, fc8_6, fc8_l⟩ := F8.out.seven; obtain ⟨pc8_0, pc8_1, _, _, pc8_l⟩ := P8.out.two; clear xc7_0 xc7_1 xc7_2 xc7_3 xc7_4 xc7_5 xc7_6 fc7_0 fc7_1 fc7_2 fc7_3 fc7_4 fc7_5 fc7_6 pc7_0 pc7_1) | (go_at_call 24; ((with_reducible refine (K9.out _).mono ?_)); rintro e v9 ⟨rfl, hb9⟩; have b9 := then_ b8 hb9; have c9 := then_ c8 hb9; have X9 := Lib.hid (X8.out.below hb9); have F9 := Lib.hid (F8.out.below hb9); have P9 := Lib.hid (P8.out.below hb9); obtain ⟨xc9_0, xc9_1, xc9_2, xc9_3, xc9_4, xc9_5, xc9_6, xc9_l⟩ := X9.out.seven; obtain ⟨fc9_0, fc9_1, fc9_2, fc9_3, fc9_4, fc9_5, fc9_6, fc9_l⟩ := F9.out.seven; obtain ⟨pc9_0, pc9_1, _, _, pc9_l⟩ := P9.out.two; clear xc8_0 xc8_1 xc8_2 xc8_3 xc8_4 xc8_5 xc8_6 fc8_0 fc8_1 fc8_2 fc8_3 fc8_4 fc8_5 fc8_6 pc8_0 pc8_1) | (go_at_call 25; ((with_reducible refine (K10.out _).mono ?_)); rintro e v10 ⟨rfl, hb10⟩; have b10 := then_ b9 hb10; have c10 := then_ c9 hb10; have X10 := Lib.hid (X9.out.below hb10); have F10 := Lib.hid (F9.out.below hb10); have P10 := Lib.hid (P9.out.below hb10); obtain ⟨xc10_0, xc10_1, xc10_2, xc10_3, xc10_4, xc10_5, xc10_6, xc10_l⟩ := X10.out.seven; obtain ⟨fc10_0, fc10_1, fc10_2, fc10_3, fc10_4, fc10_5, fc10_6, fc10_l⟩ := F10.out.seven; obtain ⟨pc10_0, pc10_1, _, _, pc10_l⟩ := P10.out.two; clear xc9_0 xc9_1 xc9_2 xc9_3 xc9_4 xc9_5 xc9_6 fc9_0 fc9_1 fc9_2 fc9_3 fc9_4 fc9_5 fc9_6 pc9_0 pc9_1) | (go_at_call 15; ((with_reducible refine (K11.out _).mono ?_)); rintro e v11 ⟨rfl, hb11⟩; have b11 := then_ b10 hb11; have c11 := then_ c10 hb11; have X11 := Lib.hid (X10.out.below hb11); have F11 := Lib.hid (F10.out.below hb11); have P11 := Lib.hid (P10.out.below hb11); obtain ⟨xc11_0, xc11_1, xc11_2, xc11_3, xc11_4, xc11_5, xc11_6, xc11_l⟩ := X11.out.seven; obtain ⟨fc11_0, fc11_1, fc11_2, fc11_3, fc11_4, fc11_5, fc11_6, fc11_l⟩ := F11.out.seven; obtain ⟨pc11_0, pc11_1, _, _, pc11_l⟩ := P11.out.two; clear xc10_0 xc10_1 xc10_2 xc10_3 xc10_4 xc10_5 xc10_6 fc10_0 fc10_1 fc10_2 fc10_3 fc10_4 fc10_5 fc10_6 pc10_0 pc10_1) | (go_at_call 26; ((with_reducible refine (K12.out _ c11).mono ?_)); rintro e v12 ⟨A12, n12, c12_, rfl, hr12, hb12⟩; have b12 := then_ b11 hb12; have c12 := then_ c11 hb12; have X12 := Lib.hid (X11.out.below hb12); have F12 := Lib.hid (F11.out.below hb12); have P12 := Lib.hid (P11.out.below hb12); obtain ⟨xc12_0, xc12_1, xc12_2, xc12_3, xc12_4, xc12_5, xc12_6, xc12_l⟩ := X12.out.seven; obtain ⟨fc12_0, fc12_1, fc12_2, fc12_3, fc12_4, fc12_5, fc12_6, fc12_l⟩ := F12.out.seven; obtain ⟨pc12_0, pc12_1, _, _, pc12_l⟩ := P12.out.two; clear xc11_0 xc11_1 xc11_2 xc11_3 xc11_4 xc11_5 xc11_6 fc11_0 fc11_1 fc11_2 fc11_3 fc11_4 fc11_5 fc11_6 pc11_0 pc11_1) | (go_at_call 27; ((with_reducible refine (K13.out _ c12).mono ?_)); rintro e v13 ⟨A13, n13, c13_, rfl, hr13, hb13⟩; have b13 := then_ b12 hb13; have c13 := then_ c12 hb13; have X13 := Lib.hid (X12.out.below hb13); have F13 := Lib.hid (F12.out.below hb13); have P13 := Lib.hid (P12.out.below hb13); obtain ⟨xc13_0, xc13_1, xc13_2, xc13_3, xc13_4, xc13_5, xc13_6, xc13_l⟩ := X13.out.seven; obtain ⟨fc13_0, fc13_1, fc13_2, fc13_3, fc13_4, fc13_5, fc13_6, fc13_l⟩ := F13.out.seven; obtain ⟨pc13_0, pc13_1, _, _, pc13_l⟩ := P13.out.two; clear xc12_0 xc12_1 xc12_2 xc12_3 xc12_4 xc12_5 xc12_6 fc12_0 fc12_1 fc12_2 fc12_3 fc12_4 fc12_5 fc12_6 pc12_0 pc12_1) | (go_at_call 15; ((with_reducible refine (K14.out A12 A13 n12 n13 c12_ c13_ _ _ _ (hr12.under hb13) hr13).mono ?_)); rintro e v14 ⟨rfl, hb14⟩; have b14 := then_ b13 hb14; have c14 := then_ c13 hb14; have X14 := Lib.hid (X13.out.below hb14); have F14 := Lib.hid (F13.out.below hb14); have P14 := Lib.hid (P13.out.below hb14); obtain ⟨xc14_0, xc14_1, xc14_2, xc14_3, xc14_4, xc14_5, xc14_6, xc14_l⟩ := X14.out.seven; obtain ⟨fc14_0, fc14_1, fc14_2, fc14_3, fc14_4, fc14_5, fc14_6, fc14_l⟩ := F14.out.seven; obtain ⟨pc14_0, pc14_1, _, _, pc14_l⟩ := P14.out.two; clear xc13_0 xc13_1 xc13_2 xc13_3 xc13_4 xc13_5 xc13_6 fc13_0 fc13_1 fc13_2 fc13_3 fc13_4 fc13_5 fc13_6 pc13_0 pc13_1) | (go_at_call 28; ((with_reducible refine (K15.out _).mono ?_)); rintro e v15 ⟨rfl, hb15⟩; have b15 := then_ b14 hb15; have c15 := then_ c14 hb15; have X15 := Lib.hid (X14.out.below hb15); have F15 := Lib.hid (F14.out.below hb15); have P15 := Lib.hid (P14.out.below hb15); obtain ⟨xc15_0, xc15_1, xc15_2, xc15_3, xc15_4, xc15_5, xc15_6, xc15_l⟩ := X15.out.seven; obtain ⟨fc15_0, fc15_1, fc15_2, fc15_3, fc15_4, fc15_5, fc15_6, fc15_l⟩ := F15.out.seven; obtain ⟨pc15_0, pc15_1, _, _, pc15_l⟩ := P15.out.two; clear xc14_0 xc14_1 xc14_2 xc14_3 xc14_4 xc14_5 xc14_6 fc14_0 fc14_1 fc14_2 fc14_3 fc14_4 fc14_5 fc14_6 pc14_0 pc14_1) | (go_at_call 29; ((with_reducible refine (K16.out _).mono ?_)); rintro e v16 ⟨rfl, hb16⟩; have b16 := then_ b15 hb16; have c16 := then_ c15 hb16; have X16 := Lib.hid (X15.out.below hb16); have F16 := Lib.hid (F15.out.below hb16); have P16 := Lib.hid (P15.out.below hb16); obtain ⟨xc16_0, xc16_1, xc16_2, xc16_3, xc16_4, xc16_5, xc16_6, xc16_l⟩ := X16.out.seven; obtain ⟨fc16_0, fc16_1, fc16_2, fc16_3, fc16_4, fc16_5, fc16_6, fc16_l⟩ := F16.out.seven; obtain ⟨pc16_0, pc16_1, _, _, pc16_l⟩ := P16.out.two; clear xc15_0 xc15_1 xc15_2 xc15_3 xc15_4 xc15_5 xc15_6 fc15_0 fc15_1 fc15_2 fc15_3 fc15_4 fc15_5 fc15_6 pc15_0 pc15_1) | (go_at_call 15; ((with_reducible refine (K17.out _).mono ?_)); rintro e v17 ⟨rfl, hb17⟩; have b17 := then_ b16 hb17; have c17 := then_ c16 hb17; have X17 := Lib.hid (X16.out.below hb17); have F17 := Lib.hid (F16.out.below hb17); have P17 := Lib.hid (P16.out.below hb17); obtain ⟨xc17_0, xc17_1, xc17_2, xc17_3, xc17_4, xc17_5, xc17_6, xc17_l⟩ := X17.out.seven; obtain ⟨fc17_0, fc17_1, fc17_2, fc17_3, fc17_4, fc17_5, fc17_6, fc17_l⟩ := F17.out.seven; obtain ⟨pc17_0, pc17_1, _, _, pc17_l⟩ := P17.out.two; clear xc16_0 xc16_1 xc16_2 xc16_3 xc16_4 xc16_5 xc16_6 fc16_0 fc16_1 fc16_2 fc16_3 fc16_4 fc16_5 fc16_6 pc16_0 pc16_1) | (go_at_call 30; ((with_reducible refine (K18.out _).mono ?_)); rintro e v18 ⟨rfl, hb18⟩; have b18 := then_ b17 hb18; have c18 := then_ c17 hb18; have X18 := Lib.hid (X17.out.below hb18); have F18 := Lib.hid (F17.out.below hb18); have P18 := Lib.hid (P17.out.below hb18); obtain ⟨xc18_0, xc18_1, xc18_2, xc18_3, xc18_4, xc18_5, xc18_6, xc18_l⟩ := X18.out.seven; obtain ⟨fc18_0, fc18_1, fc18_2, fc18_3, fc18_4, fc18_5, fc18_6, fc18_l⟩ := F18.out.seven; obtain ⟨pc18_0, pc18_1, _, _, pc18_l⟩ := P18.out.two; clear xc17_0 xc17_1 xc17_2 xc17_3 xc17_4 xc17_5 xc17_6 fc17_0 fc17_1 fc17_2 fc17_3 fc17_4 fc17_5 fc17_6 pc17_0 pc17_1) | (go_at_call 31; ((with_reducible refine (K19.out _).mono ?_)); rintro e v19 ⟨rfl, hb19⟩; have b19 := then_ b18 hb19; have c19 := then_ c18 hb19; have X19 := Lib.hid (X18.out.below hb19); have F19 := Lib.hid (F18.out.below hb19); have P19 := Lib.hid (P18.out.below hb19); obtain ⟨xc19_0, xc19_1, xc19_2, xc19_3, xc19_4, xc19_5, xc19_6, xc19_l⟩ := X19.out.seven; obtain ⟨fc19_0, fc19_1, fc19_2, fc19_3, fc19_4, fc19_5, fc19_6, fc19_l⟩ := F19.out.seven; obtain ⟨pc19_0, pc19_1, _, _, pc19_l⟩ := P19.out.two; clear xc18_0 xc18_1 xc18_2 xc18_3 xc18_4 xc18_5 xc18_6 fc18_0 fc18_1 fc18_2 fc18_3 fc18_4 fc18_5 fc18_6 pc18_0 pc18_1) | (go_at_call 15; ((with_reducible refine (K20.out _).mono ?_)); rintro e v20 ⟨rfl, hb20⟩; have b20 := then_ b19 hb20; have c20 := then_ c19 hb20; have X20 := Lib.hid (X19.out.below hb20); have F20 := Lib.hid (F19.out.below hb20); have P20 := Lib.hid (P19.out.below hb20); obtain ⟨xc20_0, xc20_1, xc20_2, xc20_3, xc20_4, xc20_5, xc20_6, xc20_l⟩ := X20.out.seven; obtain ⟨fc20_0, fc20_1, fc20_2, fc20_3, fc20_4, fc20_5, fc20_6, fc20_l⟩ := F20.out.seven; obtain ⟨pc20_0, pc20_1, _, _, pc20_l⟩ := P20.out.two; clear xc19_0 xc19_1 xc19_2 xc19_3 xc19_4 xc19_5 xc19_6 fc19_0 fc19_1 fc19_2 fc19_3 fc19_4 fc19_5 fc19_6 pc19_0 pc19_1))
    go_wp2
    go_ret
    exact ⟨rfl, b20⟩
theorem made_any (w : World) (ht : Tab w) (z : Int) (hz0 : -9223372036854775808 ≤ z) (hz1 : z ≤ 9223372036854775807) (nu : List UInt8) (hnu : nu.length ≤ 9223372036854775807) (de : List UInt8) (hde : de.length ≤ 9223372036854775807) (t : List UInt8) (htx : t.length ≤ 9223372036854775807) (px py : List UInt8) (hpx : px.length ≤ 9223372036854775807) (hpy : py.length ≤ 9223372036854775807) (r : Raw) (hw : r.Wf) (A : Option Addr) (n c : Nat) (hP : Rd (fun _ => True) w (.slice A n c) (.row (r.l.map Raw.enc))) :
    Calls Tryz.prog 4 #[.int .i64 z, str nu, str de, str t, .agg #[str px, str py], rawV r (.slice A n c)] w (RetTrue2 w) := by
  by_cases h1 : nu.length ≤ 25
  · by_cases h2 : de.length ≤ 25
    · by_cases h3 : t.length ≤ 300
      · exact made_main w ht z hz0 hz1 nu hnu de hde t htx px py hpx hpy r hw A n c hP h1 h2 h3
      · exact made_long2 w ht z nu hnu de hde t htx px py r A n c h1 h2 h3
    · exact made_long1 w ht z nu hnu de hde t px py r A n c h1 h2
  · exact made_long0 w ht z nu hnu de t px py r A n c h1
end Go.Proofs.YtcdgckbdplkdbaaGreatDoor
