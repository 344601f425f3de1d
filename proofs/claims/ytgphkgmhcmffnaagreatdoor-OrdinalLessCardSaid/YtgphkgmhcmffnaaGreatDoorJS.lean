/- Rational numbers: what reducing a fraction gives, and how long its numerals are. -/
import Derived.Test.YtgphkgmhcmffnaaGreatDoorJJ
import Derived.Test.YtgphkgmhcmffnaaGreatDoorJQ
import Derived.Deep.RegionHeld3
namespace Go.Proofs.YtgphkgmhcmffnaaGreatDoor
open Go.RowKit

theorem qd_pos {x : Int} {g : Nat} (h : 0 < g) : qd x (g : Int) = x / g := by
  unfold qd
  rw [if_neg (by omega), if_pos (by omega)]
theorem rd_rat (x y : Int) : rdN x y = (Rat.divInt x y).num ∧ rdD x y = ((Rat.divInt x y).den : Int) := by
  rw [Rat.num_divInt, Rat.den_divInt]
  by_cases hy : y = 0
  · subst hy; simp [rdN, rdD]
  · have hg : 0 < Nat.gcd x.natAbs y.natAbs := Nat.gcd_pos_of_pos_right _ (by omega)
    have e : y.gcd x = Nat.gcd x.natAbs y.natAbs := Nat.gcd_comm _ _
    unfold rdN rdD
    rw [if_neg hy, if_neg hy, if_neg hy, qd_pos hg, qd_pos hg, e]
    refine ⟨?_, ?_⟩
    · congr 1
      unfold rdX
      split
      · rw [Int.sign_eq_neg_one_of_neg (by assumption)]; omega
      · rw [Int.sign_eq_one_of_pos (by omega)]; omega
    · unfold rdY
      rw [Int.natCast_ediv]
      congr 1
      split <;> omega
/-- numerator and denominator have at most k digits -/
structure Rb (k : Nat) (q : Rat) : Prop where
  num : q.num.natAbs < 10 ^ k
  den : q.den < 10 ^ k
  pos : 1 ≤ k
theorem Rb.mk' {k : Nat} {x y : Int} (hk : 1 ≤ k) (hx : x.natAbs < 10 ^ k) (hy : y.natAbs < 10 ^ k) : Rb k (Rat.divInt x y) := by
  refine ⟨?_, ?_, hk⟩
  · rw [Rat.num_divInt]
    refine Nat.lt_of_le_of_lt (Nat.le_trans (Int.natAbs_ediv_le_natAbs _ _) ?_) hx
    rw [Int.natAbs_mul]
    rcases Int.lt_trichotomy y 0 with h | h | h
    · rw [Int.sign_eq_neg_one_of_neg h]; simp
    · subst h; simp
    · rw [Int.sign_eq_one_of_pos h]; simp
  · rw [Rat.den_divInt]
    split
    · exact Nat.one_lt_pow (by omega) (by omega)
    · exact Nat.lt_of_le_of_lt (Nat.div_le_self _ _) hy
theorem Rb.mono {k m : Nat} {q : Rat} (h : Rb k q) (hm : k ≤ m) : Rb m q :=
  ⟨Nat.lt_of_lt_of_le h.num (Nat.pow_le_pow_right (by omega) hm), Nat.lt_of_lt_of_le h.den (Nat.pow_le_pow_right (by omega) hm), by have := h.pos; omega⟩
theorem Rat.add_div (p q : Rat) : p + q = Rat.divInt (p.num * q.den + q.num * p.den) (p.den * q.den) := by
  rw [Rat.add_def', ← Rat.divInt_ofNat, Int.natCast_mul]
theorem Rat.mul_div (p q : Rat) : p * q = Rat.divInt (p.num * q.num) (p.den * q.den) := by
  rw [Rat.mul_def', ← Rat.divInt_ofNat, Int.natCast_mul]
theorem mul_lt_pow {a b k m : Nat} (ha : a < 10 ^ k) (hb : b < 10 ^ m) : a * b < 10 ^ (k + m) := by
  rw [Nat.pow_add]
  exact Nat.mul_lt_mul'' ha hb
theorem Rb.add {k m : Nat} {p q : Rat} (h : Rb k p) (h' : Rb m q) : Rb (k + m + 1) (p + q) := by
  rw [Rat.add_div]
  have h1 := mul_lt_pow h.num h'.den
  have h2 := mul_lt_pow h.den h'.num
  have h3 := mul_lt_pow h.den h'.den
  have h4 : 10 ^ (k + m + 1) = 10 ^ (k + m) * 10 := Nat.pow_succ _ _
  refine Rb.mk' (by omega) ?_ ?_
  · have e1 : (p.num * (q.den : Int)).natAbs = p.num.natAbs * q.den := by rw [Int.natAbs_mul, Int.natAbs_natCast]
    have e2 : (q.num * (p.den : Int)).natAbs = p.den * q.num.natAbs := by rw [Int.natAbs_mul, Int.natAbs_natCast, Nat.mul_comm]
    omega
  · rw [Int.natAbs_mul, Int.natAbs_natCast, Int.natAbs_natCast]; omega
theorem Rb.mul {k m : Nat} {p q : Rat} (h : Rb k p) (h' : Rb m q) : Rb (k + m) (p * q) := by
  rw [Rat.mul_div]
  have := h.pos
  refine Rb.mk' (by omega) ?_ ?_
  · rw [Int.natAbs_mul]; exact mul_lt_pow h.num h'.num
  · rw [Int.natAbs_mul, Int.natAbs_natCast, Int.natAbs_natCast]; exact mul_lt_pow h.den h'.den
theorem Rb.neg {k : Nat} {p : Rat} (h : Rb k p) : Rb k (-p) := ⟨by rw [Rat.neg_num, Int.natAbs_neg]; exact h.num, by rw [Rat.neg_den]; exact h.den, h.pos⟩
theorem Rb.inv {k : Nat} {p : Rat} (h : Rb k p) : Rb k p⁻¹ := by
  rw [Rat.inv_def]
  exact Rb.mk' h.pos (by rw [Int.natAbs_natCast]; exact h.den) h.num
theorem Rb.zero : Rb 1 0 := ⟨by decide, by decide, by decide⟩
theorem Rb.one : Rb 1 1 := ⟨by decide, by decide, by decide⟩
theorem Rb.nlen {k : Nat} {q : Rat} (h : Rb k q) : (Lib.itoa q.num).length ≤ k + 1 := itoa_length_any _ h.pos h.num
theorem Rb.dlen {k : Nat} {q : Rat} (h : Rb k q) : (Lib.itoa (q.den : Int)).length ≤ k + 1 := itoa_length_any _ h.pos (by rw [Int.natAbs_natCast]; exact h.den)

/-- a number as an object -/
abbrev ratO (q : Rat) : Ob := numO (Lib.itoa q.num) (Lib.itoa (q.den : Int))
theorem ratO_inj {p q : Rat} : ratO p = ratO q ↔ p = q := by
  refine ⟨fun h => ?_, fun h => by rw [h]⟩
  injection h with _ h1 h2
  exact Rat.ext (Dec.itoa_inj h1) (by have := Dec.itoa_inj h2; omega)
theorem ratO_int (n : Int) : ratO (n : Rat) = numO (Lib.itoa n) [49] := by
  have : Lib.itoa 1 = [49] := itoa_one
  rw [ratO, Rat.num_intCast, Rat.den_intCast]
  show numO _ (Lib.itoa 1) = _
  rw [this]
theorem den_one {q : Rat} : Lib.itoa (q.den : Int) = [49] ↔ q.den = 1 := by
  rw [← itoa_one]
  exact ⟨fun h => by have := Dec.itoa_inj h; omega, fun h => by rw [h]; rfl⟩
theorem Rat.int_of_den {q : Rat} (h : q.den = 1) : q = (q.num : Rat) := Rat.ext (by rw [Rat.num_intCast]) (by rw [Rat.den_intCast, h])
/-- the value of an object in arithmetic: 0 unless it is a number -/
def Val (o : Ob) (q : Rat) : Prop := (o.kind = 1 ∧ o = ratO q) ∨ (o.kind ≠ 1 ∧ q = 0)
theorem Val.rat (q : Rat) : Val (ratO q) q := .inl ⟨rfl, rfl⟩
/-- a number is returned -/
def RetNL (n d : List UInt8) (w : World) (e : Ending) (w' : World) : Prop := ∃ (A : Option Addr) (c : Nat), e = .returned (objV (numO n d) (.slice A 0 c)) ∧ Below w.heap.size w w'
abbrev RetNum (q : Rat) (w : World) (e : Ending) (w' : World) : Prop := RetNL (Lib.itoa q.num) (Lib.itoa (q.den : Int)) w e w'
theorem RetLeaf.num {o : Ob} {q : Rat} {w w' : World} {e : Ending} (h : RetLeaf o w e w') (ho : o = ratO q) : RetNum q w e w' := ⟨none, 0, by subst ho; exact h.1, h.2⟩
def cmpQ (p q : Rat) : Int := if p < q then -1 else if q < p then 1 else 0
theorem cmpQ_cross (p q : Rat) : cmpI (p.num * q.den) (q.num * p.den) = cmpQ p q := by
  unfold cmpI cmpQ
  simp only [Rat.lt_iff]
theorem cmpQ_den {p q : Rat} (h : p.den = q.den) : cmpI p.num q.num = cmpQ p q := by
  rw [← cmpQ_cross, h]
  have hp : 0 < (q.den : Int) := by have := q.den_nz; omega
  unfold cmpI
  simp only [Int.mul_lt_mul_right hp]
end Go.Proofs.YtgphkgmhcmffnaaGreatDoor
/- Objects: the constructors and the small questions of package object. -/
namespace Go.Proofs.YtgphkgmhcmffnaaGreatDoor
open Go.RowKit

set_option maxHeartbeats 400000 in
theorem oInteger_any (a : List UInt8) (w : World) : Calls Tryz.prog 105 #[str a] w (RetLeaf (numO a [49]) w) := by
  go_enter Tryz.func105, Tryz.ntmps105
  go_wp2
  go_outline
  exact bodyPost_ret (v := objV (numO a [49]) (.slice none 0 0)) (by simp [results, Tryz.results105, go_sem]) rfl ⟨rfl, box _ _⟩
set_option maxHeartbeats 400000 in
theorem oInt_any (n : Int) (w : World) (ht : Tab w) (h0 : -9223372036854775808 ≤ n) (h1 : n ≤ 9223372036854775807) : Calls Tryz.prog 80 #[.int .i64 n] w (RetLeaf (numO (Lib.itoa n) [49]) w) := by
  have HF := Lib.hid (fun w' (hb : Below w.heap.size w w') => fromInt_any n w' (ht.below hb) h0 h1)
  clear h0 h1
  go_enter Tryz.func80, Tryz.ntmps80
  go_wp2_with fail
  refine (HF.out _ (box _ _)).mono ?_
  rintro e w1 ⟨rfl, hb⟩
  go_wp2_with fail
  refine (oInteger_any _ _).mono ?_
  rintro e w2 ⟨rfl, hb2⟩
  have HB := Lib.hid ((BlkIs.via hb).below hb2)
  obtain ⟨u0, u1, u2, u3, u4, u5, u6, hu⟩ := HB.out.seven
  obtain ⟨f0, f1, f2, f3, f4, f5, f6⟩ := HB.out.frozen7
  go_wp2
  exact ret_obj Tryz.results80 rfl HB.out.put7 rfl ⟨rfl, set7 (then_ (via hb) hb2) (Nat.le_refl _) _ _ _ _ _ _ _⟩
set_option maxHeartbeats 400000 in
theorem oRational_any (a b : List UInt8) (w : World) (ha : a.length ≤ 1100000) (hb : b.length ≤ 1100000) (ht : Tab w) : Calls Tryz.prog 119 #[str a, str b] w (RetLeaf (numO (Lib.itoa (rdN (Dec.dval a) (Dec.dval b))) (Lib.itoa (rdD (Dec.dval a) (Dec.dval b)))) w) := by
  have HF := Lib.hid (fun w' (hw : Below w.heap.size w w') => reduceN_any a b w' ha hb (ht.below hw))
  clear ha hb
  generalize Lib.itoa (rdN (Dec.dval a) (Dec.dval b)) = n at *
  generalize Lib.itoa (rdD (Dec.dval a) (Dec.dval b)) = d at *
  go_enter Tryz.func119, Tryz.ntmps119
  go_wp2_with fail
  refine (HF.out _ (box _ _)).mono ?_
  rintro e w1 ⟨rfl, hb⟩
  have HB := Lib.hid (BlkIs.via hb)
  obtain ⟨u0, u1, u2, u3, u4, u5, u6, hu⟩ := HB.out.seven
  obtain ⟨f0, f1, f2, f3, f4, f5, f6⟩ := HB.out.frozen7
  go_wp2
  exact ret_obj Tryz.results119 rfl HB.out.put7 rfl ⟨rfl, set7 (via hb) (Nat.le_refl _) _ _ _ _ _ _ _⟩
/-- two objects side by side in one block read as a pair -/
theorem rd_pair {ok : Nat → Prop} {a d : Ob} {A A' : Option Addr} {n n' c c' : Nat} {w : World} {g : Nat} {t : TypeId} (hB : BlkIs w g t #[.int .i64 a.kind, str a.num, str a.den, str a.sp, str a.sn, str a.text, .slice A n c, .int .i64 d.kind, str d.num, str d.den, str d.sp, str d.sn, str d.text, .slice A' n' c'])
    (hg : ok g) (ha : Rd ok w (.slice A n c) (.row (a.pair.map Ob.enc))) (hd : Rd ok w (.slice A' n' c') (.row (d.pair.map Ob.enc))) : Rd ok w (.slice (some ⟨g, 0, none⟩) 2 2) (.row ([a, d].map Ob.enc)) := by
  refine Rd.mk (k := 7) rfl (Nat.le_refl _) hB.lt hg (fun i hi => ?_) (fun i j hi hj => ?_)
  · rw [List.getElem_map, Ob.enc_len]
  · simp only [List.getElem_map, Ob.enc_len] at hj
    have hi' : i < 2 := hi
    rw [hB.cell]
    rcases i with _ | _ | i
    · rcases j with _ | _ | _ | _ | _ | _ | _ | j
      all_goals first | omega | skip
      all_goals simp only [List.map_cons, List.getElem_cons_zero, Ob.enc_eq, List.getElem_cons_succ]
      all_goals first | exact ⟨_, rfl, .val _⟩ | exact ⟨_, rfl, ha⟩
    · rcases j with _ | _ | _ | _ | _ | _ | _ | j
      all_goals first | omega | skip
      all_goals simp only [List.map_cons, List.getElem_cons_zero, Ob.enc_eq, List.getElem_cons_succ]
      all_goals first | exact ⟨_, rfl, .val _⟩ | exact ⟨_, rfl, hd⟩
    · omega
theorem cons_ret (ok : Nat → Prop) (a d : Ob) (A A' : Option Addr) (n n' c c' : Nat) (w : World) {b1 b2 b3 : Obj} {t : TypeId} (ha : Rd ok w (.slice A n c) (.row (a.pair.map Ob.enc))) (hd : Rd ok w (.slice A' n' c') (.row (d.pair.map Ob.enc))) :
    RetObj ok (consO a d) w (.returned (objV (consO a d) (.slice (some ⟨w.heap.size + 1 + 1 + 1, 0, none⟩) 2 2))) ((((w.alloc b1).alloc b2).alloc b3).alloc (.cells #[.int .i64 a.kind, str a.num, str a.den, str a.sp, str a.sn, str a.text, .slice A n c, .int .i64 d.kind, str d.num, str d.den, str d.sp, str d.sn, str d.text, .slice A' n' c'] t)) := by
  have hb : Below w.heap.size w (((w.alloc b1).alloc b2).alloc b3) := box2 (box2 (box _ _) _) _
  refine ⟨_, 2, 2, rfl, ?_, box2 hb _⟩
  have hB := BlkIs.new (((w.alloc b1).alloc b2).alloc b3) t #[.int .i64 a.kind, str a.num, str a.den, str a.sp, str a.sn, str a.text, .slice A n c, .int .i64 d.kind, str d.num, str d.den, str d.sp, str d.sn, str d.text, .slice A' n' c']
  have e : (((w.alloc b1).alloc b2).alloc b3).heap.size = w.heap.size + 1 + 1 + 1 := by simp
  rw [e] at hB
  exact rd_pair hB (.inr (by omega)) ((ha.under (box2 hb _)).mono fun _ h _ => .inl h) ((hd.under (box2 hb _)).mono fun _ h _ => .inl h)
set_option maxHeartbeats 400000 in
theorem oCons_any (ok : Nat → Prop) (a d : Ob) (A A' : Option Addr) (n n' c c' : Nat) (w : World) (ha : Rd ok w (.slice A n c) (.row (a.pair.map Ob.enc))) (hd : Rd ok w (.slice A' n' c') (.row (d.pair.map Ob.enc))) :
    Calls Tryz.prog 86 #[objV a (.slice A n c), objV d (.slice A' n' c')] w (RetObj ok (consO a d) w) := by
  go_enter Tryz.func86, Tryz.ntmps86
  go_wp2
  exact ret_obj Tryz.results86 rfl ((BlkIs.new2 w _ _ _ _).alloc _) rfl (cons_ret ok a d A A' n n' c c' w ha hd)
end Go.Proofs.YtgphkgmhcmffnaaGreatDoor
/- Arithmetic of objects: fix, value, Sum, Product, Opposite, Reciprocal, Less of package object. -/
namespace Go.Proofs.YtgphkgmhcmffnaaGreatDoor
open Go.RowKit

theorem oRationalQ (a b : List UInt8) (w : World) (ha : a.length ≤ 1100000) (hb : b.length ≤ 1100000) (ht : Tab w) : Calls Tryz.prog 119 #[str a, str b] w (RetLeaf (ratO (Rat.divInt (Dec.dval a) (Dec.dval b))) w) := by
  have := oRational_any a b w ha hb ht
  rwa [(rd_rat _ _).1, (rd_rat _ _).2] at this
set_option maxHeartbeats 400000 in
theorem oFix_any (o : Ob) (q : Rat) (hv : Val o q) (A : Option Addr) (n c : Nat) (hn : o.pair.length = n) (w : World) (ht : Tab w) : Calls Tryz.prog 116 #[objV o (.slice A n c)] w (RetNum q w) := by
  rcases hv with ⟨hk, rfl⟩ | ⟨hk, rfl⟩
  · obtain rfl : n = 0 := by rw [← hn]; rfl
    clear hk hn
    generalize Lib.itoa q.num = ln at *
    generalize Lib.itoa (q.den : Int) = ld at *
    go_enter Tryz.func116, Tryz.ntmps116
    go_wp2
    exact ret_obj Tryz.results116 rfl (BlkIs.new1 w _ _ _) rfl ⟨A, c, rfl, box2 (box _ _) _⟩
  · obtain ⟨k, nm, d, p, s, t, l⟩ := o
    dsimp only at hk
    have hz : (k == 1) = false := by rw [beq_eq_false_iff_ne]; exact hk
    clear hk hn
    have HI : Hid (∀ w' : World, Below w.heap.size w w' → Calls Tryz.prog 80 #[.int .i64 0] w' (RetLeaf (numO (Lib.itoa (0 : Rat).num) (Lib.itoa ((0 : Rat).den : Int))) w')) := fun w' hb => by
      have := oInt_any 0 w' (ht.below hb) (by omega) (by omega)
      rwa [← ratO_int] at this
    unfold RetNum
    generalize Lib.itoa (0 : Rat).num = ln at *
    generalize Lib.itoa ((0 : Rat).den : Int) = ld at *
    go_enter Tryz.func116, Tryz.ntmps116
    go_wp2_with fail
    refine (HI.out _ (box2 (box _ _) _)).mono ?_
    rintro e w1 ⟨rfl, hb⟩
    have HB := Lib.hid ((BlkIs.new1 w _ _ _).below hb)
    obtain ⟨u0, u1, u2, u3, u4, u5, u6, hu⟩ := HB.out.seven
    obtain ⟨f0, f1, f2, f3, f4, f5, f6⟩ := HB.out.frozen7
    go_wp2
    exact ret_obj Tryz.results116 rfl HB.out.put7 rfl ⟨none, 0, rfl, set7 (via (via hb)) (Nat.le_succ _) _ _ _ _ _ _ _⟩
set_option maxHeartbeats 1000000 in
set_option maxRecDepth 100000 in
theorem oValue_any (p q : Rat) {k m : Nat} (bp : Rb k p) (bq : Rb m q) (hk : k ≤ 10000) (hm : m ≤ 10000) (A A' : Option Addr) (n n' c c' : Nat) (w : World) (ht : Tab w) :
    Calls Tryz.prog 115 #[objV (ratO p) (.slice A n c), objV (ratO q) (.slice A' n' c')] w (RetI64 (cmpQ p q) w) := by
  have n1 : Num (k + 1) (Lib.itoa p.num) p.num := ⟨Dec.dval_itoa _, bp.nlen⟩
  have d1 : Num (k + 1) (Lib.itoa (p.den : Int)) p.den := ⟨Dec.dval_itoa _, bp.dlen⟩
  have n2 : Num (m + 1) (Lib.itoa q.num) q.num := ⟨Dec.dval_itoa _, bq.nlen⟩
  have d2 : Num (m + 1) (Lib.itoa (q.den : Int)) q.den := ⟨Dec.dval_itoa _, bq.dlen⟩
  by_cases hd : p.den = q.den
  · have HC := fun w' => Lib.hid (compareZ n1 n2 (by omega) (by omega) (cmpQ_den hd) w')
    have hd' : Lib.itoa (p.den : Int) = Lib.itoa (q.den : Int) := by rw [hd]
    unfold ratO
    rw [hd']
    clear n1 n2 d1 d2 hd hd'
    generalize Lib.itoa p.num = ln at *
    generalize Lib.itoa q.num = rn at *
    generalize Lib.itoa (q.den : Int) = rd at *
    go_enter Tryz.func115, Tryz.ntmps115
    go_wp2_with fail
    refine (HC _).out.mono ?_
    rintro e w1 ⟨rfl, hb⟩
    go_wp2
    go_ret
    exact ⟨rfl, via (via hb)⟩
  · have hd' : (Lib.itoa (p.den : Int) == Lib.itoa (q.den : Int)) = false := by rw [beq_eq_false_iff_ne]; exact fun e => hd (by have := Dec.itoa_inj e; omega)
    have HM1 : Hid (∀ w' : World, Below w.heap.size w w' → Calls Tryz.prog 120 #[str (Lib.itoa p.num), str (Lib.itoa (q.den : Int))] w' (RetStr (Lib.itoa (p.num * q.den)) w')) := fun w' hb => mulZ n1 d2 (by omega) (by omega) w' (ht.below hb)
    have HM2 : Hid (∀ w' : World, Below w.heap.size w w' → Calls Tryz.prog 120 #[str (Lib.itoa q.num), str (Lib.itoa (p.den : Int))] w' (RetStr (Lib.itoa (q.num * p.den)) w')) := fun w' hb => mulZ n2 d1 (by omega) (by omega) w' (ht.below hb)
    have HC : Hid (∀ w' : World, Calls Tryz.prog 134 #[str (Lib.itoa (p.num * q.den)), str (Lib.itoa (q.num * p.den))] w' (RetI64 (cmpQ p q) w')) := fun w' => compareZ (n1.mul d2) (n2.mul d1) (by omega) (by omega) (cmpQ_cross p q) w'
    clear n1 n2 d1 d2 hd
    unfold ratO
    generalize Lib.itoa (p.num * q.den) = l1 at *
    generalize Lib.itoa (q.num * p.den) = l2 at *
    generalize Lib.itoa p.num = ln at *
    generalize Lib.itoa q.num = rn at *
    generalize Lib.itoa (p.den : Int) = ld at *
    generalize Lib.itoa (q.den : Int) = rd at *
    go_enter Tryz.func115, Tryz.ntmps115
    go_wp2_with fail
    have X0' := Lib.hid ((BlkIs.new w 31 (obCells (numO ln ld) (.slice A n c))).alloc (.cells (obCells (numO rn rd) (.slice A' n' c')) 31))
    have Y0' := Lib.hid (BlkIs.new1 w (.cells (obCells (numO ln ld) (.slice A n c)) 31) 31 (obCells (numO rn rd) (.slice A' n' c')))
    have b0 := (box2 (box w (.cells (obCells (numO ln ld) (.slice A n c)) 31)) (.cells (obCells (numO rn rd) (.slice A' n' c')) 31)).drew
    generalize (w.alloc (.cells (obCells (numO ln ld) (.slice A n c)) 31)).alloc (.cells (obCells (numO rn rd) (.slice A' n' c')) 31) = W at *
    have X0 := Lib.hid X0'.out.drew
    have Y0 := Lib.hid Y0'.out.drew
    obtain ⟨xs0, xs1, xs2, xs3, xs4, xs5, xs6, xsl⟩ := X0'.out.seven
    obtain ⟨ys0, ys1, ys2, ys3, ys4, ys5, ys6, ysl⟩ := Y0'.out.seven
    go_region_held3 (fun w' => w'.cell? ⟨w.heap.size, 1, none⟩ = some (str ln) ∧ w'.cell? ⟨w.heap.size, 2, none⟩ = some (str ld) ∧ w'.cell? ⟨w.heap.size + 1, 1, none⟩ = some (str rn) ∧ w'.cell? ⟨w.heap.size + 1, 2, none⟩ = some (str rd)) (go_keep)
      (first | (go_at_call 120; ((with_reducible refine (HM1.out _ b0).mono ?_)); rintro e v1 ⟨rfl, hb1⟩; have b1 := then_ b0 hb1; have X1 := Lib.hid (X0.out.below hb1); have Y1 := Lib.hid (Y0.out.below hb1); obtain ⟨xc1_0, xc1_1, xc1_2, xc1_3, xc1_4, xc1_5, xc1_6, xc1_l⟩ := X1.out.seven; obtain ⟨yc1_0, yc1_1, yc1_2, yc1_3, yc1_4, yc1_5, yc1_6, yc1_l⟩ := Y1.out.seven) | (go_at_call 120; ((with_reducible refine (HM2.out _ b1).mono ?_)); rintro e v2 ⟨rfl, hb2⟩; have b2 := then_ b1 hb2; have X2 := Lib.hid (X1.out.below hb2); have Y2 := Lib.hid (Y1.out.below hb2); obtain ⟨xc2_0, xc2_1, xc2_2, xc2_3, xc2_4, xc2_5, xc2_6, xc2_l⟩ := X2.out.seven; obtain ⟨yc2_0, yc2_1, yc2_2, yc2_3, yc2_4, yc2_5, yc2_6, yc2_l⟩ := Y2.out.seven) | (go_at_call 134; ((with_reducible refine (HC.out _).mono ?_)); rintro e v3 ⟨rfl, hb3⟩; have b3 := then_ b2 hb3; have X3 := Lib.hid (X2.out.below hb3); have Y3 := Lib.hid (Y2.out.below hb3); obtain ⟨xc3_0, xc3_1, xc3_2, xc3_3, xc3_4, xc3_5, xc3_6, xc3_l⟩ := X3.out.seven; obtain ⟨yc3_0, yc3_1, yc3_2, yc3_3, yc3_4, yc3_5, yc3_6, yc3_l⟩ := Y3.out.seven))
    go_wp2
    go_ret
    exact ⟨rfl, b3⟩
end Go.Proofs.YtgphkgmhcmffnaaGreatDoor
