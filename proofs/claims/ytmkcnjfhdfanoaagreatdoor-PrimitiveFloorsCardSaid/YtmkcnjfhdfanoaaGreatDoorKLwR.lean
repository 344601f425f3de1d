/- Chapter 7: PrimitiveFloors. -/
import Derived.Test.YtmkcnjfhdfanoaaGreatDoorKN
namespace Go.Proofs.YtmkcnjfhdfanoaaGreatDoor
open Go.RowKit

theorem qd_floor (q : Rat) : qd q.num q.den = q.floor := by
  have hp : (0 : Int) < q.den := Int.natCast_pos.2 q.den_pos
  unfold qd
  rw [if_neg (by omega), if_pos hp, Rat.floor_def]
theorem p_PrimitiveFloors {r : Raw} (wr' : r.Wf) : Puk 11 [rawA r] (boA true) := by
  cases hr : fewR r 10 with
  | false => exact pwalk (an := [yT, yF]) (ls := []) (ps := [Puk 12 [] (boA true), Puk 23 [(rawA r), (inA 10)] (boA false)]) Tryz.func11 (by kernel_rfl) (by kernel_rfl) ⟨p_first, (p_Few r 10).b hr, trivial⟩
  | true =>
  have mr := p_mkO (fewR_fit (by decide) (by decide) hr) wr'
  have hx := Sml.mk' (by decide) (by decide) hr
  generalize mkT r = x at *
  have hq : Rb 4 x.val := hx.ok.val (by decide)
  obtain ⟨fl, hfl⟩ : ∃ fl : Int, fl = qd x.val.num x.val.den := ⟨_, rfl⟩
  have vf : (iT fl).valid = true := by rw [hfl]; exact Tr.ap_valid hx.v Tr.valid_nil Tr.valid_nil 17 (by decide) (by decide) (by decide) (by decide)
  have hl : (fl : Rat) ≤ x.val := by rw [hfl, qd_floor]; exact Rat.floor_le _
  have hg : x.val < ((1 : Int) : Rat) + (fl : Rat) := by
    have := Rat.lt_floor_add_one x.val
    rw [← qd_floor, ← hfl, Rat.intCast_add, Rat.add_comm] at this
    exact this
  have bf : Rb 100 (fl : Rat) := Tr.good_num.1 (Tr.valid_good vf)
  have bfl : fl.natAbs < 10 ^ 5 := by
    rw [hfl]
    have hp : (0 : Int) < x.val.den := Int.natCast_pos.2 x.val.den_pos
    unfold qd
    rw [if_neg (by omega), if_pos hp]
    exact Nat.lt_of_le_of_lt (Int.natAbs_ediv_le_natAbs _ _) (Nat.lt_trans hq.num (by decide))
  have va : (Tr.num (((1 : Int) : Rat) + (fl : Rat))).valid = true := Tr.valid_num (((rbI (k := 5) (n := 1) (by decide) (by decide)).add (rbI (k := 5) (by decide) bfl)).mono (by decide))
  have v1 : (iT 1).valid = true := iT_valid (by decide)
  have v0 : (iT 0).valid = true := iT_valid (by decide)
  have vn : (iT x.val.num).valid = true := iT_valid (Nat.lt_trans hq.num (by decide))
  have vd : (iT (x.val.den : Int)).valid = true := iT_valid (by rw [Int.natAbs_natCast]; exact Nat.lt_trans hq.den (by decide))
  have vi : (Tr.num ((x.val.den : Int) : Rat)⁻¹).valid = true := Tr.ap_valid vd Tr.valid_nil Tr.valid_nil 13 (by decide) (by decide) (by decide) (by decide)
  have vx : (Tr.num x.val).valid = true := Tr.valid_num (hq.mono (by decide))
  have eq1 : (x.val.num : Rat) * ((x.val.den : Int) : Rat)⁻¹ = x.val := by
    rw [← Rat.div_def, ← Rat.divInt_eq_div]
    exact Rat.num_divInt_den _
  have eq0 : ((0 : Int) : Rat) + x.val = x.val := Rat.zero_add _
  have f1 := p_val1 (i := 17) (s := [102, 108, 111, 111, 114]) (t := iT fl) rfl hx.v (by decide) (by rw [hfl]; rfl)
  have f2 := p_val2 (i := 10) (s := [98, 105, 110, 97, 114, 121, 45, 43]) (t := .num (((1 : Int) : Rat) + (fl : Rat))) rfl v1 vf va rfl
  have f3 := p_val1 (i := 15) (s := [110, 117, 109, 101, 114, 97, 116, 111, 114]) (t := iT x.val.num) rfl hx.v (by decide) rfl
  have f4 := p_val1 (i := 16) (s := [100, 101, 110, 111, 109, 105, 110, 97, 116, 111, 114]) (t := iT (x.val.den : Int)) rfl hx.v (by decide) rfl
  have f5 := p_val1 (i := 13) (s := [117, 110, 97, 114, 121, 45, 47]) (t := .num ((x.val.den : Int) : Rat)⁻¹) rfl vd (by decide) rfl
  have a6 : Tr.ap 11 (iT x.val.num) (.num ((x.val.den : Int) : Rat)⁻¹) nilT = .num x.val := congrArg Tr.num eq1
  have f6 := p_val2 (i := 11) (s := [98, 105, 110, 97, 114, 121, 45, 42]) rfl vn vi (by rw [a6]; exact vx) a6
  have a7 : Tr.ap 10 (iT 0) x nilT = .num x.val := congrArg Tr.num eq0
  have f7 := p_val2 (i := 10) (s := [98, 105, 110, 97, 114, 121, 45, 43]) rfl v0 hx.v (by rw [a7]; exact vx) a7
  have a8 : Tr.ap 14 x (iT fl) nilT = nilT := by
    show truT (decide (x.val < (fl : Rat))) = nilT
    rw [decide_eq_false (Rat.not_lt.2 hl)]
    rfl
  have f8 := p_val2 (i := 14) (s := [60]) rfl hx.v vf (by rw [a8]; exact Tr.valid_nil) a8
  have a9 : Tr.ap 14 x (.num (((1 : Int) : Rat) + (fl : Rat))) nilT = truT true := by
    show truT (decide (x.val < ((1 : Int) : Rat) + (fl : Rat))) = truT true
    rw [decide_eq_true hg]
  have f9 := p_val2 (i := 14) (s := [60]) rfl hx.v va (by rw [a9]; exact Tr.valid_t) a9
  have i1 : Puk 40 [trA (iT fl)] (boA true) := (p_rIsI (iT fl)).b (by rw [Tr.isI_ob]; exact decide_eq_true (Rat.den_intCast fl))
  have i2 := p_rEqT Tr.valid_t
  have i3 := p_rEqT vx
  have i4 := (p_rIsNil (t := nilT) nilT_ok (k := 4) (by decide)).b (decide_eq_true rfl)
  have i5 := p_rInt 1 (by decide) (by decide)
  have i6 := p_rInt 0 (by decide) (by decide)
  clear a6 a7 a8 a9 eq1 eq0 va vi vx vd vn v0 v1 hl hg vf bf hfl
  generalize ((1 : Int) : Rat) + (fl : Rat) = ab at *
  generalize ((x.val.den : Int) : Rat)⁻¹ = iv at *
  generalize (x.val.den : Int) = de at *
  generalize x.val.num = nu at *
  generalize x.val = q at *
  exact pwalk (an := [yT, yT, .av (trA x), .av (trA (iT fl)), .av (trA (iT 1)), .av (trA (.num ab)), .av (trA (iT nu)), .av (trA (iT de)), .av (trA (.num iv)), .av (trA (.num q)), .av (trA (iT 0)), .av (trA (.num q)), yT, .av (trA nilT), yT, .av (trA (truT true)), .av (trA (truT true)), yT, yT]) (ls := []) (ps := [Puk 12 [] (boA true), Puk 23 [(rawA r), (inA 10)] (boA true), Puk 37 [(rawA r)] (obA x.ob), Puk 29 [(stA [102, 108, 111, 111, 114]), (.dt (.row [encL x.ob]))] (trA (iT fl)), Puk 27 [(inA 1)] (trA (iT 1)), Puk 29 [(stA [98, 105, 110, 97, 114, 121, 45, 43]), (.dt (.row [[(.val (vi 1)), (.val (str (iT 1).ob.num)), (.val (str (iT 1).ob.den)), (.val (str (iT 1).ob.sp)), (.val (str (iT 1).ob.sn)), (.val (str (iT 1).ob.text)), (.row (List.map Ob.enc (iT 1).ob.pair))], encL (iT fl).ob]))] (trA (Tr.num ab)), Puk 29 [(stA [110, 117, 109, 101, 114, 97, 116, 111, 114]), (.dt (.row [encL x.ob]))] (trA (iT nu)), Puk 29 [(stA [100, 101, 110, 111, 109, 105, 110, 97, 116, 111, 114]), (.dt (.row [encL x.ob]))] (trA (iT de)), Puk 29 [(stA [117, 110, 97, 114, 121, 45, 47]), (.dt (.row [encL (iT de).ob]))] (trA (Tr.num iv)), Puk 29 [(stA [98, 105, 110, 97, 114, 121, 45, 42]), (.dt (.row [encL (iT nu).ob, encL (Tr.num iv).ob]))] (trA (Tr.num q)), Puk 27 [(inA 0)] (trA (iT 0)), Puk 29 [(stA [98, 105, 110, 97, 114, 121, 45, 43]), (.dt (.row [[(.val (vi 1)), (.val (str (iT 0).ob.num)), (.val (str (iT 0).ob.den)), (.val (str (iT 0).ob.sp)), (.val (str (iT 0).ob.sn)), (.val (str (iT 0).ob.text)), (.row (List.map Ob.enc (iT 0).ob.pair))], encL x.ob]))] (trA (Tr.num q)), Puk 40 [(trA (iT fl))] (boA true), Puk 29 [(stA [60]), (.dt (.row [encL x.ob, encL (iT fl).ob]))] (obA nilT.ob), Puk 39 [(obA nilT.ob)] (boA true), Puk 29 [(stA [60]), (.dt (.row [encL x.ob, encL (Tr.num ab).ob]))] (trA (truT true)), Puk 38 [] (trA (truT true)), Puk 22 [(trA (truT true)), (trA (truT true))] (boA true), Puk 22 [(trA (Tr.num q)), (trA (Tr.num q))] (boA true)]) Tryz.func11 (by kernel_rfl) (by kernel_rfl)
    ⟨p_first, (p_Few r 10).b hr, mr, f1, i5, f2, f3, f4, f5, f6, i6, f7, i1, f8, i4, f9, p_rT, i2, i3, trivial⟩
theorem floors7_any (W : World) (hG : Gx W) (r : Raw) (hr : r.Wf) (A1 : Option Addr) (n1 c1 : Nat) (h1 : Rd (fun _ => True) W (.slice A1 n1 c1) (.row (r.l.map Raw.enc))) :
    Says 11 #[rawV r (.slice A1 n1 c1)] W :=
  (p_PrimitiveFloors hr).law (ok := fun _ => True) hG ⟨_, _, rfl, RV.ofRaw h1, rfl⟩
end Go.Proofs.YtmkcnjfhdfanoaaGreatDoor
