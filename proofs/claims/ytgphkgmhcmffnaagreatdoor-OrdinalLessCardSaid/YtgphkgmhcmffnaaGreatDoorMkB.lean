/- lispprovermake.Object and Objects: the objects of plain trees. -/
import Derived.Test.YtgphkgmhcmffnaaGreatDoorMkA
import Derived.Deep.RegionHeld3
import Derived.Deep.RegionLaw
namespace Go.Proofs.YtgphkgmhcmffnaaGreatDoor
open Go.RowKit

/-- an object in new memory -/
def RetNew (o : Ob) (w : World) (e : Ending) (w' : World) : Prop := ∃ A n c, e = .returned (objV o (.slice A n c)) ∧ Rd (fun b => w.heap.size ≤ b) w' (.slice A n c) (.row (o.pair.map Ob.enc)) ∧ Below w.heap.size w w'
theorem RetLeaf.new {o : Ob} {w w' : World} {e : Ending} (h : RetLeaf o w e w') (hp : o.pair = []) : RetNew o w e w' := ⟨none, 0, 0, h.1, by rw [hp]; exact .nil _ _, h.2⟩
set_option maxHeartbeats 1000000 in
set_option maxRecDepth 100000 in
theorem mk_int0 (r : Raw) (A : Option Addr) (n c : Nat) (w : World) (ht : Tab w) (hk : r.kind % 8 = 0) :
    Calls Tryz.prog 21 #[rawV r (.slice A n c)] w (RetNew (Tr.num ((r.n % 2001 - 1000 : Int) : Rat)).ob w) := by
  have HK : Hid (∀ w' : World, Calls Tryz.prog 16 #[.int .i64 r.kind, .int .i64 8] w' (RetPureV (.int .i64 0) w')) := fun w' => by
    have := mod_any r.kind 8 w' (by omega) (by omega)
    rwa [hk] at this
  clear hk
  have HM : Hid (∀ w' : World, Calls Tryz.prog 16 #[.int .i64 r.n, .int .i64 2001] w' (RetPureV (.int .i64 (r.n % 2001)) w')) := fun w' => mod_any r.n 2001 w' (by omega) (by omega)
  have h0 : 0 ≤ r.n % 2001 := by omega
  have h1 : r.n % 2001 < 2001 := by omega
  show Calls Tryz.prog 21 #[rawV r (.slice A n c)] w (RetNew (ratO ((r.n % 2001 - 1000 : Int) : Rat)) w)
  generalize r.n % 2001 = m at *
  have HI : Hid (∀ w' : World, Below w.heap.size w w' → Calls Tryz.prog 15 #[.int .i64 (m - 1000)] w' (RetLeaf (ratO ((m - 1000 : Int) : Rat)) w')) := fun w' hb => rInt_any (m - 1000) w' (ht.below hb) (by omega) (by omega)
  unfold ratO at HI ⊢
  generalize Lib.itoa ((m - 1000 : Int) : Rat).num = l1 at *
  generalize Lib.itoa (((m - 1000 : Int) : Rat).den : Int) = l2 at *
  go_enter Tryz.func21, Tryz.ntmps21
  go_wp2_with fail
  refine (HK.out _).mono ?_
  rintro e w1 ⟨rfl, rfl⟩
  go_wp2_with fail
  refine (HM.out _).mono ?_
  rintro e w1 ⟨rfl, rfl⟩
  go_wp2_with fail
  refine (HI.out _ (box2 (box _ _) _)).mono ?_
  rintro e w1 ⟨rfl, hb⟩
  have Z := Lib.hid ((BlkIs.new1 w (.cells (rawCells r (.slice A n c)) 41) 31 zeroCells).below hb)
  obtain ⟨z0, z1, z2, z3, z4, z5, z6, zl⟩ := Z.out.seven
  obtain ⟨zf0, zf1, zf2, zf3, zf4, zf5, zf6⟩ := Z.out.frozen7
  go_wp2
  exact ret_obj Tryz.results21 rfl Z.out.put7 rfl ⟨none, 0, 0, rfl, .nil _ _, set7 (via (via hb)) (Nat.le_succ _) _ _ _ _ _ _ _⟩
set_option maxHeartbeats 1000000 in
set_option maxRecDepth 100000 in
theorem mk_int1 (r : Raw) (A : Option Addr) (n c : Nat) (w : World) (ht : Tab w) (hk : r.kind % 8 = 1) :
    Calls Tryz.prog 21 #[rawV r (.slice A n c)] w (RetNew (Tr.num ((r.n % 2001 - 1000 : Int) : Rat)).ob w) := by
  have HK : Hid (∀ w' : World, Calls Tryz.prog 16 #[.int .i64 r.kind, .int .i64 8] w' (RetPureV (.int .i64 1) w')) := fun w' => by
    have := mod_any r.kind 8 w' (by omega) (by omega)
    rwa [hk] at this
  clear hk
  have HM : Hid (∀ w' : World, Calls Tryz.prog 16 #[.int .i64 r.n, .int .i64 2001] w' (RetPureV (.int .i64 (r.n % 2001)) w')) := fun w' => mod_any r.n 2001 w' (by omega) (by omega)
  have h0 : 0 ≤ r.n % 2001 := by omega
  have h1 : r.n % 2001 < 2001 := by omega
  show Calls Tryz.prog 21 #[rawV r (.slice A n c)] w (RetNew (ratO ((r.n % 2001 - 1000 : Int) : Rat)) w)
  generalize r.n % 2001 = m at *
  have HI : Hid (∀ w' : World, Below w.heap.size w w' → Calls Tryz.prog 15 #[.int .i64 (m - 1000)] w' (RetLeaf (ratO ((m - 1000 : Int) : Rat)) w')) := fun w' hb => rInt_any (m - 1000) w' (ht.below hb) (by omega) (by omega)
  unfold ratO at HI ⊢
  generalize Lib.itoa ((m - 1000 : Int) : Rat).num = l1 at *
  generalize Lib.itoa (((m - 1000 : Int) : Rat).den : Int) = l2 at *
  go_enter Tryz.func21, Tryz.ntmps21
  go_wp2_with fail
  refine (HK.out _).mono ?_
  rintro e w1 ⟨rfl, rfl⟩
  go_wp2_with fail
  refine (HM.out _).mono ?_
  rintro e w1 ⟨rfl, rfl⟩
  go_wp2_with fail
  refine (HI.out _ (box2 (box _ _) _)).mono ?_
  rintro e w1 ⟨rfl, hb⟩
  have Z := Lib.hid ((BlkIs.new1 w (.cells (rawCells r (.slice A n c)) 41) 31 zeroCells).below hb)
  obtain ⟨z0, z1, z2, z3, z4, z5, z6, zl⟩ := Z.out.seven
  obtain ⟨zf0, zf1, zf2, zf3, zf4, zf5, zf6⟩ := Z.out.frozen7
  go_wp2
  exact ret_obj Tryz.results21 rfl Z.out.put7 rfl ⟨none, 0, 0, rfl, .nil _ _, set7 (via (via hb)) (Nat.le_succ _) _ _ _ _ _ _ _⟩
set_option maxHeartbeats 1000000 in
set_option maxRecDepth 100000 in
theorem mk_txt (r : Raw) (A : Option Addr) (n c : Nat) (w : World) (hk : r.kind % 8 = 4) :
    Calls Tryz.prog 21 #[rawV r (.slice A n c)] w (RetNew (Tr.txt r.s).ob w) := by
  have HK : Hid (∀ w' : World, Calls Tryz.prog 16 #[.int .i64 r.kind, .int .i64 8] w' (RetPureV (.int .i64 4) w')) := fun w' => by
    have := mod_any r.kind 8 w' (by omega) (by omega)
    rwa [hk] at this
  clear hk
  show Calls Tryz.prog 21 #[rawV r (.slice A n c)] w (RetNew (txtO r.s) w)
  go_enter Tryz.func21, Tryz.ntmps21
  go_wp2_with fail
  refine (HK.out _).mono ?_
  rintro e w1 ⟨rfl, rfl⟩
  go_wp2_with fail
  refine (rText_any _ r.s).mono ?_
  rintro e w1 ⟨rfl, hb⟩
  have Z := Lib.hid ((BlkIs.new1 w (.cells (rawCells r (.slice A n c)) 41) 31 zeroCells).below hb)
  obtain ⟨z0, z1, z2, z3, z4, z5, z6, zl⟩ := Z.out.seven
  obtain ⟨zf0, zf1, zf2, zf3, zf4, zf5, zf6⟩ := Z.out.frozen7
  go_wp2
  exact ret_obj Tryz.results21 rfl Z.out.put7 rfl ⟨none, 0, 0, rfl, .nil _ _, set7 (via (via hb)) (Nat.le_succ _) _ _ _ _ _ _ _⟩
set_option maxHeartbeats 1000000 in
set_option maxRecDepth 100000 in
theorem mk_sym (r : Raw) (A : Option Addr) (n c : Nat) (w : World) (hk : r.kind % 8 = 3) :
    Calls Tryz.prog 21 #[rawV r (.slice A n c)] w (RetNew (Tr.sym (symP r.n).1 (symP r.n).2).ob w) := by
  have HK : Hid (∀ w' : World, Calls Tryz.prog 16 #[.int .i64 r.kind, .int .i64 8] w' (RetPureV (.int .i64 3) w')) := fun w' => by
    have := mod_any r.kind 8 w' (by omega) (by omega)
    rwa [hk] at this
  clear hk
  have HS : Hid (∀ w' : World, Calls Tryz.prog 53 #[.int .i64 r.n] w' (RetBel (.agg #[str (symP r.n).1, str (symP r.n).2]) w')) := fun w' => sym_any r.n w'
  show Calls Tryz.prog 21 #[rawV r (.slice A n c)] w (RetNew (symO (symP r.n).1 (symP r.n).2) w)
  generalize (symP r.n).1 = l1 at *
  generalize (symP r.n).2 = l2 at *
  go_enter Tryz.func21, Tryz.ntmps21
  go_wp2_with fail
  refine (HK.out _).mono ?_
  rintro e w1 ⟨rfl, rfl⟩
  go_wp2_with fail
  refine (HS.out _).mono ?_
  rintro e w1 ⟨rfl, hb⟩
  go_wp2_with fail
  refine (rSymbol_any _ l1 l2).mono ?_
  rintro e w2 ⟨rfl, hb2⟩
  have Z := Lib.hid (((BlkIs.new1 w (.cells (rawCells r (.slice A n c)) 41) 31 zeroCells).below hb).below hb2)
  obtain ⟨z0, z1, z2, z3, z4, z5, z6, zl⟩ := Z.out.seven
  obtain ⟨zf0, zf1, zf2, zf3, zf4, zf5, zf6⟩ := Z.out.frozen7
  go_wp2
  exact ret_obj Tryz.results21 rfl Z.out.put7 rfl ⟨none, 0, 0, rfl, .nil _ _, set7 (then_ (via (via hb)) hb2) (Nat.le_succ _) _ _ _ _ _ _ _⟩
set_option maxHeartbeats 1000000 in
set_option maxRecDepth 100000 in
theorem mk_rat (r : Raw) (A : Option Addr) (n c : Nat) (w : World) (ht : Tab w) (hk : r.kind % 8 = 2) (hs : r.s.length ≤ 12) :
    Calls Tryz.prog 21 #[rawV r (.slice A n c)] w (RetNew (Tr.num (Rat.divInt (r.n % 41 - 20) (1 + r.s.length))).ob w) := by
  have HK : Hid (∀ w' : World, Calls Tryz.prog 16 #[.int .i64 r.kind, .int .i64 8] w' (RetPureV (.int .i64 2) w')) := fun w' => by
    have := mod_any r.kind 8 w' (by omega) (by omega)
    rwa [hk] at this
  clear hk
  have HM : Hid (∀ w' : World, Calls Tryz.prog 16 #[.int .i64 r.n, .int .i64 41] w' (RetPureV (.int .i64 (r.n % 41)) w')) := fun w' => mod_any r.n 41 w' (by omega) (by omega)
  have h0 : 0 ≤ r.n % 41 := by omega
  have h1 : r.n % 41 < 41 := by omega
  show Calls Tryz.prog 21 #[rawV r (.slice A n c)] w (RetNew (ratO (Rat.divInt (r.n % 41 - 20) (1 + r.s.length))) w)
  generalize r.n % 41 = m at *
  have HF1 : Hid (∀ w' : World, Below w.heap.size w w' → Calls Tryz.prog 45 #[.int .i64 (m - 20)] w' (RetStr (Lib.itoa (m - 20)) w')) := fun w' hb => refFromInt_any (m - 20) w' (ht.below hb) (by omega) (by omega)
  have HF2 : Hid (∀ w' : World, Below w.heap.size w w' → Calls Tryz.prog 45 #[.int .i64 (1 + (r.s.length : Int))] w' (RetStr (Lib.itoa (1 + (r.s.length : Int))) w')) := fun w' hb => refFromInt_any (1 + (r.s.length : Int)) w' (ht.below hb) (by omega) (by omega)
  have HR : Hid (∀ w' : World, Calls Tryz.prog 44 #[str (Lib.itoa (m - 20)), str (Lib.itoa (1 + (r.s.length : Int)))] w' (RetLeaf (ratO (Rat.divInt (m - 20) (1 + r.s.length))) w')) := fun w' => by
    have e1 : (Lib.itoa (m - 20)).length ≤ 5 := itoa_length_any _ (k := 4) (by omega) (by omega)
    have e2 : (Lib.itoa (1 + (r.s.length : Int))).length ≤ 5 := itoa_length_any _ (k := 4) (by omega) (by omega)
    have := rRationalQ (Lib.itoa (m - 20)) (Lib.itoa (1 + (r.s.length : Int))) w' (by omega) (by omega)
    rwa [Dec.dval_itoa, Dec.dval_itoa] at this
  unfold ratO at HR ⊢
  generalize Lib.itoa (Rat.divInt (m - 20) (1 + r.s.length)).num = l1 at *
  generalize Lib.itoa ((Rat.divInt (m - 20) (1 + r.s.length)).den : Int) = l2 at *
  generalize Lib.itoa (m - 20) = l3 at *
  generalize Lib.itoa (1 + (r.s.length : Int)) = l4 at *
  go_enter Tryz.func21, Tryz.ntmps21
  go_wp2_with fail
  refine (HK.out _).mono ?_
  rintro e w1 ⟨rfl, rfl⟩
  go_upto_region 6 with (fail)
  have X0' := Lib.hid ((BlkIs.new w 41 (rawCells r (.slice A n c))).alloc (.cells zeroCells 31))
  have Z0' := Lib.hid (BlkIs.new1 w (.cells (rawCells r (.slice A n c)) 41) 31 zeroCells)
  have b0 := (box2 (box w (.cells (rawCells r (.slice A n c)) 41)) (.cells zeroCells 31)).drew
  generalize ((w.alloc (.cells (rawCells r (.slice A n c)) 41)).alloc (.cells zeroCells 31)) = W at *
  have X0 := Lib.hid X0'.out.drew
  have Z0 := Lib.hid Z0'.out.drew
  obtain ⟨xs0, xs1, xs2, xs3, xsl⟩ := X0'.out.four
  have wr1 : IntKind.i64.wrap (m - 20) = m - 20 := IntWalk.i64_in _ (by omega)
  have wr2 : IntKind.i64.wrap (1 + (r.s.length : Int)) = 1 + (r.s.length : Int) := IntWalk.i64_in _ (by omega)
  go_region_held3 (fun w' => w'.cell? ⟨w.heap.size, 1, none⟩ = some (.int .i64 r.n) ∧ w'.cell? ⟨w.heap.size, 2, none⟩ = some (str r.s)) (go_keep)
    (first | (go_at_call 16; ((with_reducible refine (HM.out _).mono ?_)); rintro e v0 ⟨rfl, rfl⟩) | (go_at_call 45; ((with_reducible refine (HF1.out _ b0).mono ?_)); rintro e v1 ⟨rfl, hb1⟩; have b1 := then_ b0 hb1; have X1 := Lib.hid (X0.out.below hb1); have Z1 := Lib.hid (Z0.out.below hb1); obtain ⟨xc1_0, xc1_1, xc1_2, xc1_3, xc1_l⟩ := X1.out.four) | (go_at_call 45; ((with_reducible refine (HF2.out _ b1).mono ?_)); rintro e v2 ⟨rfl, hb2⟩; have b2 := then_ b1 hb2; have X2 := Lib.hid (X1.out.below hb2); have Z2 := Lib.hid (Z1.out.below hb2); obtain ⟨xc2_0, xc2_1, xc2_2, xc2_3, xc2_l⟩ := X2.out.four) | (go_at_call 44; ((with_reducible refine (HR.out _).mono ?_)); rintro e v3 ⟨rfl, hb3⟩; have b3 := then_ b2 hb3; have X3 := Lib.hid (X2.out.below hb3); have Z3 := Lib.hid (Z2.out.below hb3); obtain ⟨xc3_0, xc3_1, xc3_2, xc3_3, xc3_l⟩ := X3.out.four; obtain ⟨zc_0, zc_1, zc_2, zc_3, zc_4, zc_5, zc_6, zc_l⟩ := Z3.out.seven; obtain ⟨zc_f0, zc_f1, zc_f2, zc_f3, zc_f4, zc_f5, zc_f6⟩ := Z3.out.frozen7))
  go_wp2
  exact ret_obj Tryz.results21 rfl Z3.out.put7 rfl ⟨none, 0, 0, rfl, .nil _ _, set7 b3 (Nat.le_succ _) _ _ _ _ _ _ _⟩
set_option maxHeartbeats 1000000 in
set_option maxRecDepth 100000 in
theorem mk_cons (ok : Nat → Prop) (r : Raw) (A : Option Addr) (n c : Nat) (w : World) (hk : r.kind % 8 = 5) (hP : Rd ok w (.slice A n c) (.row (r.l.map Raw.enc))) (a d : Ob)
    (Ha : ∀ (A : Option Addr) (n c : Nat) (w' : World), Below w.heap.size w w' → Rd ok w' (.slice A n c) (.row ((partR r 0).l.map Raw.enc)) → Calls Tryz.prog 21 #[rawV (partR r 0) (.slice A n c)] w' (RetNew a w'))
    (Hd : ∀ (A : Option Addr) (n c : Nat) (w' : World), Below w.heap.size w w' → Rd ok w' (.slice A n c) (.row ((partR r 1).l.map Raw.enc)) → Calls Tryz.prog 21 #[rawV (partR r 1) (.slice A n c)] w' (RetNew d w')) :
    Calls Tryz.prog 21 #[rawV r (.slice A n c)] w (RetNew (consO a d) w) := by
  have HK : Hid (∀ w' : World, Calls Tryz.prog 16 #[.int .i64 r.kind, .int .i64 8] w' (RetPureV (.int .i64 5) w')) := fun w' => by
    have := mod_any r.kind 8 w' (by omega) (by omega)
    rwa [hk] at this
  clear hk
  have HA := Lib.hid Ha
  have HD := Lib.hid Hd
  have HP0 : Hid (∀ w' : World, Below w.heap.size w w' → Calls Tryz.prog 55 #[rawV r (.slice A n c), .int .i64 0] w' (RetRaw ok (partR r 0) w')) := fun w' hb => part_any ok r 0 A n c w' (hP.under hb)
  have HP1 : Hid (∀ w' : World, Below w.heap.size w w' → Calls Tryz.prog 55 #[rawV r (.slice A n c), .int .i64 1] w' (RetRaw ok (partR r 1) w')) := fun w' hb => part_any ok r 1 A n c w' (hP.under hb)
  clear Ha Hd hP
  generalize partR r 0 = r0 at *
  generalize partR r 1 = r1 at *
  go_enter Tryz.func21, Tryz.ntmps21
  go_wp2_with fail
  refine (HK.out _).mono ?_
  rintro e w1 ⟨rfl, rfl⟩
  go_upto_region 12 with (fail)
  have X0' := Lib.hid ((BlkIs.new w 41 (rawCells r (.slice A n c))).alloc (.cells zeroCells 31))
  have Z0' := Lib.hid (BlkIs.new1 w (.cells (rawCells r (.slice A n c)) 41) 31 zeroCells)
  have b0 := (box2 (box w (.cells (rawCells r (.slice A n c)) 41)) (.cells zeroCells 31)).drew
  generalize ((w.alloc (.cells (rawCells r (.slice A n c)) 41)).alloc (.cells zeroCells 31)) = W at *
  have X0 := Lib.hid X0'.out.drew
  have Z0 := Lib.hid Z0'.out.drew
  obtain ⟨xs0, xs1, xs2, xs3, xsl⟩ := X0'.out.four
  have hz0 : w.heap.size + 1 < W.heap.size := Z0'.out.lt
  go_region_held3 (fun w' => w'.cell? ⟨w.heap.size, 0, none⟩ = some (.int .i64 r.kind) ∧ w'.cell? ⟨w.heap.size, 1, none⟩ = some (.int .i64 r.n) ∧ w'.cell? ⟨w.heap.size, 2, none⟩ = some (str r.s) ∧ w'.cell? ⟨w.heap.size, 3, none⟩ = some (.slice A n c)) (go_keep)
    (first | (go_at_call 55; ((with_reducible refine (HP0.out _ b0).mono ?_)); rintro e v1 ⟨A1, n1, c1, rfl, hr1, hb1⟩; have b1 := then_ b0 hb1; have X1 := Lib.hid (X0.out.below hb1); have Z1 := Lib.hid (Z0.out.below hb1); obtain ⟨xc1_0, xc1_1, xc1_2, xc1_3, xc1_l⟩ := X1.out.four) | (go_at_call 21; ((with_reducible refine (HA.out A1 n1 c1 _ b1 (hr1.under hb1)).mono ?_)); rintro e v2 ⟨A2, n2, c2, rfl, hr2, hb2⟩; have b2 := then_ b1 hb2; have X2 := Lib.hid (X1.out.below hb2); have Z2 := Lib.hid (Z1.out.below hb2); obtain ⟨xc2_0, xc2_1, xc2_2, xc2_3, xc2_l⟩ := X2.out.four) | (go_at_call 55; ((with_reducible refine (HP1.out _ b2).mono ?_)); rintro e v3 ⟨A3, n3, c3, rfl, hr3, hb3⟩; have b3 := then_ b2 hb3; have X3 := Lib.hid (X2.out.below hb3); have Z3 := Lib.hid (Z2.out.below hb3); obtain ⟨xc3_0, xc3_1, xc3_2, xc3_3, xc3_l⟩ := X3.out.four) | (go_at_call 21; ((with_reducible refine (HD.out A3 n3 c3 _ b3 (hr3.under hb3)).mono ?_)); rintro e v4 ⟨A4, n4, c4, rfl, hr4, hb4⟩; have b4 := then_ b3 hb4; have X4 := Lib.hid (X3.out.below hb4); have Z4 := Lib.hid (Z3.out.below hb4); obtain ⟨xc4_0, xc4_1, xc4_2, xc4_3, xc4_l⟩ := X4.out.four) | (go_at_call 30; ((with_reducible refine (rCons_any (fun b => w.heap.size + 1 < b) a d A2 A4 n2 n4 c2 c4 v4 (((hr2.mono fun b hb' _ => (by have := b1.size; have := Z1.out.lt; omega)).under hb3).under hb4) (hr4.mono fun b hb' _ => (by have := Z3.out.lt; omega))).mono ?_)); rintro e v5 ⟨A5, n5, c5, rfl, hr5, hb5⟩; have b5 := then_ b4 hb5; have X5 := Lib.hid (X4.out.below hb5); have Z5 := Lib.hid (Z4.out.below hb5); obtain ⟨xc5_0, xc5_1, xc5_2, xc5_3, xc5_l⟩ := X5.out.four; obtain ⟨zc_0, zc_1, zc_2, zc_3, zc_4, zc_5, zc_6, zc_l⟩ := Z5.out.seven; obtain ⟨zc_f0, zc_f1, zc_f2, zc_f3, zc_f4, zc_f5, zc_f6⟩ := Z5.out.frozen7))
  go_wp2
  refine ret_obj Tryz.results21 rfl Z5.out.put7 rfl ⟨A5, n5, c5, rfl, ?_, set7 b5 (Nat.le_succ _) _ _ _ _ _ _ _⟩
  refine Rd.mono (hr5.far7 (g := w.heap.size + 1) (fun b hb' => by have := Z4.out.lt; omega) _ _ _ _ _ _ _) (fun b hb' _ => by have := Z4.out.lt; omega)
set_option maxHeartbeats 2000000 in
set_option maxRecDepth 100000 in
theorem mk_list6 (ok : Nat → Prop) (r : Raw) (A : Option Addr) (n c : Nat) (w : World) (hk : r.kind % 8 = 6) (hP : Rd ok w (.slice A n c) (.row (r.l.map Raw.enc))) (hn : n ≤ 6) (f : Raw → Ob)
    (Ha : ∀ (x : Raw) (A : Option Addr) (n c : Nat) (w' : World), x ∈ r.l → Below w.heap.size w w' → Rd ok w (.slice A n c) (.row (x.l.map Raw.enc)) → Calls Tryz.prog 21 #[rawV x (.slice A n c)] w' (RetNew (f x) w')) :
    Calls Tryz.prog 21 #[rawV r (.slice A n c)] w (RetNew (listO (r.l.map f)) w) := by
  have HK : Hid (∀ w' : World, Calls Tryz.prog 16 #[.int .i64 r.kind, .int .i64 8] w' (RetPureV (.int .i64 6) w')) := fun w' => by
    have := mod_any r.kind 8 w' (by omega) (by omega)
    rwa [hk] at this
  clear hk
  have HA := Lib.hid Ha
  have HLen := Lib.hid hP.len
  clear Ha
  go_enter Tryz.func21, Tryz.ntmps21
  go_wp2_with fail
  refine (HK.out _).mono ?_
  rintro e w1 ⟨rfl, rfl⟩
  go_wp2
  go_loopw [3, 4] (fun lv ix wr => ∃ (i : Nat) (A4 : Option Addr) (n4 c4 : Nat), lv = .slice A4 n4 c4 ∧ ix = .int .i64 i ∧ i ≤ n ∧ Hid (BlkIs wr w.heap.size 41 (rawCells r (.slice A n c))) ∧ Hid (BlkIs wr (w.heap.size + 1) 31 zeroCells) ∧ OwnD (fun b => w.heap.size + 1 < b) wr (w.heap.size + 1 + 1) 31 7 A4 n4 c4 (((r.l.take i).map f).map Ob.enc) ∧ Below w.heap.size w wr) (fun _ ix _ => n - (intOf ix).toNat)
  case atStart => exact ⟨0, none, 0, 0, rfl, rfl, Nat.zero_le _, Lib.hid ((BlkIs.new w _ _).alloc _), Lib.hid (BlkIs.new1 w (.cells (rawCells r (.slice A n c)) 41) 31 zeroCells), (by rw [List.take_zero]; exact OwnD.nil _ _ _ _ _), box2 (box _ _) _⟩
  case round =>
    obtain ⟨i, A4, n4, c4, rfl, rfl, hi, X, Z, hown, hb⟩ := hrel
    have hon := hown.len
    have hl0 := HLen.out
    simp only [List.length_map, List.length_take] at hon hl0
    obtain ⟨x0, x1, x2, x3, xl⟩ := X.out.four
    by_cases hin : i < n
    · obtain ⟨b, q, hil, A5, n5, c5, rfl, hbl, _, a0, a1, a2, a3, ha⟩ := hP.raws hb (i := i) hin
      have hbl' := Nat.lt_of_lt_of_le hbl hb.size
      have HC := Lib.hid (HA.out r.l[i] A5 n5 c5 wr (List.getElem_mem hil) hb ha)
      have hTS : (r.l.take (i + 1)).map f = (r.l.take i).map f ++ [f r.l[i]] := by rw [List.take_succ_eq_append_getElem hil, List.map_append]; rfl
      have HTS := Lib.hid hTS
      clear hTS hl0
      go_wp2_with fail
      refine HC.out.mono ?_
      generalize f r.l[i] = y at *
      rintro e w1 ⟨A6, n6, c6, rfl, hr6, hb1⟩
      have b1 := then_ hb hb1
      have X1 := Lib.hid (X.out.below hb1)
      have Z1 := Lib.hid (Z.out.below hb1)
      have hown1 := hown.under hb1
      have hwr := Z.out.lt
      have hw1 := Z1.out.lt
      have hbn := Lib.hid (BlkIs.new w1 31 (obCells y (.slice A6 n6 c6)))
      have HS := Lib.hid (src_obj (A := A4) hbn.out (ok := fun b => w.heap.size + 1 < b) ((hr6.mono fun b h1 _ => ⟨by omega, fun e => by
        rcases hown.addr with h2 | ⟨g, h2, h3, h4⟩
        · rw [h2] at e; cases e
        · rw [h2] at e
          injection e with e
          injection e with e
          omega⟩).under (box _ _)))
      have hown1' := hown1.alloc (.cells (obCells y (.slice A6 n6 c6)) 31)
      have hsz1 : w.heap.size + 1 + 1 ≤ (w1.alloc (.cells (obCells y (.slice A6 n6 c6)) 31)).heap.size := by simp; omega
      have HNE : Hid (A4 ≠ some ⟨w.heap.size, 0, none⟩ ∧ A4 ≠ some ⟨w.heap.size + 1, 0, none⟩) := ⟨fun e => by have := hown1.from_ w.heap.size e; omega, fun e => by have := hown1.from_ (w.heap.size + 1) e; omega⟩
      have HLT : Hid (w.heap.size + 1 < (w1.alloc (.cells (obCells y (.slice A6 n6 c6)) 31)).heap.size) := hsz1
      clear x0 x1 x2 x3 a0 a1 a2 a3
      go_wp2_with (at_builtin; refine wpList_appD rfl _ _ _ rfl (fun b => w.heap.size + 1 < b) (w.heap.size + 1 + 1) 31 _ 7 112 Tryz.underlying29 infoOb rfl (by omega) _ _ _ _ rfl hown1' _ 1 1 [y.enc] rfl rfl HS.out (by unfold maxLen; omega) (by omega) hsz1 ?_; intro A7 c7 w2 hown2 hblk hsz hos htp hou _; have b2 := below_appD (box2 b1 (.cells (obCells y (.slice A6 n6 c6)) 31)) (fun g e => by have := hown1.from_ g e; omega) hblk hsz hos htp hou; have X2 := Lib.hid ((X1.out.alloc (.cells (obCells y (.slice A6 n6 c6)) 31)).keep (hblk w.heap.size (Nat.lt_of_succ_lt HLT.out) HNE.out.1)); have Z2 := Lib.hid ((Z1.out.alloc (.cells (obCells y (.slice A6 n6 c6)) 31)).keep (hblk (w.heap.size + 1) HLT.out HNE.out.2)); clear hblk hsz hos htp hou)
      go_roundw
      case rel => exact ⟨i + 1, A7, n4 + 1, c7, rfl, by go_num, by omega, X2, Z2, (by rw [HTS.out, List.map_append]; exact hown2), b2⟩
      case measure => simp only [intOf]; omega
    · obtain rfl : i = n := by omega
      have hr : Rd (fun b => w.heap.size + 1 < b) wr (.slice A4 n4 c4) (.row ((r.l.map f).map Ob.enc)) := by
        have h1 := hown.rd
        rw [List.take_of_length_le (by omega)] at h1
        exact h1.mono fun b h1 _ => by rcases h1 with h1 | h1 <;> omega
      have HC := Lib.hid (rList_any (fun b => w.heap.size + 1 < b) (r.l.map f) A4 n4 c4 wr hr (by omega))
      clear hl0
      go_wp2_with fail
      refine HC.out.mono ?_
      rintro e w1 ⟨A6, n6, c6, rfl, hr6, hb1⟩
      have Z1 := Lib.hid (Z.out.below hb1)
      have hzl := Z.out.lt
      have b1 := then_ hb hb1
      obtain ⟨z0, z1, z2, z3, z4, z5, z6, zl⟩ := Z1.out.seven
      obtain ⟨zf0, zf1, zf2, zf3, zf4, zf5, zf6⟩ := Z1.out.frozen7
      go_wp2
      refine ret_obj Tryz.results21 rfl Z1.out.put7 rfl ⟨A6, n6, c6, rfl, ?_, set7 b1 (Nat.le_succ _) _ _ _ _ _ _ _⟩
      refine Rd.mono (hr6.far7 (g := w.heap.size + 1) (fun b hb' => by omega) _ _ _ _ _ _ _) (fun b hb' _ => by omega)
set_option maxHeartbeats 2000000 in
set_option maxRecDepth 100000 in
theorem mk_list7 (ok : Nat → Prop) (r : Raw) (A : Option Addr) (n c : Nat) (w : World) (hk : r.kind % 8 = 7) (hP : Rd ok w (.slice A n c) (.row (r.l.map Raw.enc))) (hn : n ≤ 6) (f : Raw → Ob)
    (Ha : ∀ (x : Raw) (A : Option Addr) (n c : Nat) (w' : World), x ∈ r.l → Below w.heap.size w w' → Rd ok w (.slice A n c) (.row (x.l.map Raw.enc)) → Calls Tryz.prog 21 #[rawV x (.slice A n c)] w' (RetNew (f x) w')) :
    Calls Tryz.prog 21 #[rawV r (.slice A n c)] w (RetNew (listO (r.l.map f)) w) := by
  have HK : Hid (∀ w' : World, Calls Tryz.prog 16 #[.int .i64 r.kind, .int .i64 8] w' (RetPureV (.int .i64 7) w')) := fun w' => by
    have := mod_any r.kind 8 w' (by omega) (by omega)
    rwa [hk] at this
  clear hk
  have HA := Lib.hid Ha
  have HLen := Lib.hid hP.len
  clear Ha
  go_enter Tryz.func21, Tryz.ntmps21
  go_wp2_with fail
  refine (HK.out _).mono ?_
  rintro e w1 ⟨rfl, rfl⟩
  go_wp2
  go_loopw [3, 4] (fun lv ix wr => ∃ (i : Nat) (A4 : Option Addr) (n4 c4 : Nat), lv = .slice A4 n4 c4 ∧ ix = .int .i64 i ∧ i ≤ n ∧ Hid (BlkIs wr w.heap.size 41 (rawCells r (.slice A n c))) ∧ Hid (BlkIs wr (w.heap.size + 1) 31 zeroCells) ∧ OwnD (fun b => w.heap.size + 1 < b) wr (w.heap.size + 1 + 1) 31 7 A4 n4 c4 (((r.l.take i).map f).map Ob.enc) ∧ Below w.heap.size w wr) (fun _ ix _ => n - (intOf ix).toNat)
  case atStart => exact ⟨0, none, 0, 0, rfl, rfl, Nat.zero_le _, Lib.hid ((BlkIs.new w _ _).alloc _), Lib.hid (BlkIs.new1 w (.cells (rawCells r (.slice A n c)) 41) 31 zeroCells), (by rw [List.take_zero]; exact OwnD.nil _ _ _ _ _), box2 (box _ _) _⟩
  case round =>
    obtain ⟨i, A4, n4, c4, rfl, rfl, hi, X, Z, hown, hb⟩ := hrel
    have hon := hown.len
    have hl0 := HLen.out
    simp only [List.length_map, List.length_take] at hon hl0
    obtain ⟨x0, x1, x2, x3, xl⟩ := X.out.four
    by_cases hin : i < n
    · obtain ⟨b, q, hil, A5, n5, c5, rfl, hbl, _, a0, a1, a2, a3, ha⟩ := hP.raws hb (i := i) hin
      have hbl' := Nat.lt_of_lt_of_le hbl hb.size
      have HC := Lib.hid (HA.out r.l[i] A5 n5 c5 wr (List.getElem_mem hil) hb ha)
      have hTS : (r.l.take (i + 1)).map f = (r.l.take i).map f ++ [f r.l[i]] := by rw [List.take_succ_eq_append_getElem hil, List.map_append]; rfl
      have HTS := Lib.hid hTS
      clear hTS hl0
      go_wp2_with fail
      refine HC.out.mono ?_
      generalize f r.l[i] = y at *
      rintro e w1 ⟨A6, n6, c6, rfl, hr6, hb1⟩
      have b1 := then_ hb hb1
      have X1 := Lib.hid (X.out.below hb1)
      have Z1 := Lib.hid (Z.out.below hb1)
      have hown1 := hown.under hb1
      have hwr := Z.out.lt
      have hw1 := Z1.out.lt
      have hbn := Lib.hid (BlkIs.new w1 31 (obCells y (.slice A6 n6 c6)))
      have HS := Lib.hid (src_obj (A := A4) hbn.out (ok := fun b => w.heap.size + 1 < b) ((hr6.mono fun b h1 _ => ⟨by omega, fun e => by
        rcases hown.addr with h2 | ⟨g, h2, h3, h4⟩
        · rw [h2] at e; cases e
        · rw [h2] at e
          injection e with e
          injection e with e
          omega⟩).under (box _ _)))
      have hown1' := hown1.alloc (.cells (obCells y (.slice A6 n6 c6)) 31)
      have hsz1 : w.heap.size + 1 + 1 ≤ (w1.alloc (.cells (obCells y (.slice A6 n6 c6)) 31)).heap.size := by simp; omega
      have HNE : Hid (A4 ≠ some ⟨w.heap.size, 0, none⟩ ∧ A4 ≠ some ⟨w.heap.size + 1, 0, none⟩) := ⟨fun e => by have := hown1.from_ w.heap.size e; omega, fun e => by have := hown1.from_ (w.heap.size + 1) e; omega⟩
      have HLT : Hid (w.heap.size + 1 < (w1.alloc (.cells (obCells y (.slice A6 n6 c6)) 31)).heap.size) := hsz1
      clear x0 x1 x2 x3 a0 a1 a2 a3
      go_wp2_with (at_builtin; refine wpList_appD rfl _ _ _ rfl (fun b => w.heap.size + 1 < b) (w.heap.size + 1 + 1) 31 _ 7 112 Tryz.underlying29 infoOb rfl (by omega) _ _ _ _ rfl hown1' _ 1 1 [y.enc] rfl rfl HS.out (by unfold maxLen; omega) (by omega) hsz1 ?_; intro A7 c7 w2 hown2 hblk hsz hos htp hou _; have b2 := below_appD (box2 b1 (.cells (obCells y (.slice A6 n6 c6)) 31)) (fun g e => by have := hown1.from_ g e; omega) hblk hsz hos htp hou; have X2 := Lib.hid ((X1.out.alloc (.cells (obCells y (.slice A6 n6 c6)) 31)).keep (hblk w.heap.size (Nat.lt_of_succ_lt HLT.out) HNE.out.1)); have Z2 := Lib.hid ((Z1.out.alloc (.cells (obCells y (.slice A6 n6 c6)) 31)).keep (hblk (w.heap.size + 1) HLT.out HNE.out.2)); clear hblk hsz hos htp hou)
      go_roundw
      case rel => exact ⟨i + 1, A7, n4 + 1, c7, rfl, by go_num, by omega, X2, Z2, (by rw [HTS.out, List.map_append]; exact hown2), b2⟩
      case measure => simp only [intOf]; omega
    · obtain rfl : i = n := by omega
      have hr : Rd (fun b => w.heap.size + 1 < b) wr (.slice A4 n4 c4) (.row ((r.l.map f).map Ob.enc)) := by
        have h1 := hown.rd
        rw [List.take_of_length_le (by omega)] at h1
        exact h1.mono fun b h1 _ => by rcases h1 with h1 | h1 <;> omega
      have HC := Lib.hid (rList_any (fun b => w.heap.size + 1 < b) (r.l.map f) A4 n4 c4 wr hr (by omega))
      clear hl0
      go_wp2_with fail
      refine HC.out.mono ?_
      rintro e w1 ⟨A6, n6, c6, rfl, hr6, hb1⟩
      have Z1 := Lib.hid (Z.out.below hb1)
      have hzl := Z.out.lt
      have b1 := then_ hb hb1
      obtain ⟨z0, z1, z2, z3, z4, z5, z6, zl⟩ := Z1.out.seven
      obtain ⟨zf0, zf1, zf2, zf3, zf4, zf5, zf6⟩ := Z1.out.frozen7
      go_wp2
      refine ret_obj Tryz.results21 rfl Z1.out.put7 rfl ⟨A6, n6, c6, rfl, ?_, set7 b1 (Nat.le_succ _) _ _ _ _ _ _ _⟩
      refine Rd.mono (hr6.far7 (g := w.heap.size + 1) (fun b hb' => by omega) _ _ _ _ _ _ _) (fun b hb' _ => by omega)
theorem partR_mk (r : Raw) (i : Nat) : mkT (partR r i) = (r.l.map mkT).getD i zeroT := by
  unfold partR
  rw [List.getD_eq_getElem?_getD, List.getD_eq_getElem?_getD, List.getElem?_map]
  cases r.l[i]? with
  | none =>
    show mkT ⟨0, 0, [], []⟩ = zeroT
    rw [mkT_eq]
    unfold mkK zeroT
    rw [if_pos (.inl (by decide))]
    congr 2
  | some x => rfl
theorem partR_fit {r : Raw} (h : Fit r) (hw : r.Wf) (i : Nat) : Fit (partR r i) ∧ (partR r i).Wf ∧ ((partR r i).size < r.size ∨ partR r i = ⟨0, 0, [], []⟩) := by
  unfold partR
  rw [List.getD_eq_getElem?_getD]
  rcases Nat.lt_or_ge i r.l.length with h1 | h1
  · rw [List.getElem?_eq_getElem h1]
    have := List.getElem_mem h1
    exact ⟨h.kids this, hw.kids this, .inl (Raw.size_l this)⟩
  · rw [List.getElem?_eq_none h1]
    exact ⟨Fit.empty, Raw.Wf.empty, .inr rfl⟩
theorem mkO_any (ok : Nat → Prop) : ∀ (N : Nat) (r : Raw), r.size ≤ N → Fit r → r.Wf → ∀ (A : Option Addr) (n c : Nat) (w : World), Tab w → Rd ok w (.slice A n c) (.row (r.l.map Raw.enc)) →
    Calls Tryz.prog 21 #[rawV r (.slice A n c)] w (RetNew (mkT r).ob w) := by
  intro N
  induction N with
  | zero => intro r h; have := Raw.size_pos r; omega
  | succ N ih =>
    intro r hN hF hW A n c w ht hP
    have hlen := hP.len
    rw [List.length_map] at hlen
    have hl := hF.l
    rw [mkT_eq]
    have hc : r.kind % 8 = 0 ∨ r.kind % 8 = 1 ∨ r.kind % 8 = 2 ∨ r.kind % 8 = 3 ∨ r.kind % 8 = 4 ∨ r.kind % 8 = 5 ∨ r.kind % 8 = 6 ∨ r.kind % 8 = 7 := by omega
    have hlist : ∀ (k : Int), (k % 8 = 6 ∨ k % 8 = 7) → mkK k r.n r.s (r.l.map mkT) = Tr.list (r.l.map mkT) := fun k h => by
      unfold mkK
      rw [if_neg (by omega), if_neg (by omega), if_neg (by omega), if_neg (by omega), if_neg (by omega)]
    have HLI : ∀ (x : Raw) (A : Option Addr) (n c : Nat) (w' : World), x ∈ r.l → Below w.heap.size w w' → Rd ok w (.slice A n c) (.row (x.l.map Raw.enc)) → Calls Tryz.prog 21 #[rawV x (.slice A n c)] w' (RetNew (mkT x).ob w') := fun x A n c w' hx hb hr => ih x (by have := Raw.size_l hx; omega) (hF.kids hx) (hW.kids hx) A n c w' (ht.below hb) (hr.under hb)
    have HPA : ∀ (i : Nat) (A : Option Addr) (n c : Nat) (w' : World), Below w.heap.size w w' → Rd ok w' (.slice A n c) (.row ((partR r i).l.map Raw.enc)) → Calls Tryz.prog 21 #[rawV (partR r i) (.slice A n c)] w' (RetNew (mkT (partR r i)).ob w') := fun i A n c w' hb hr => by
      obtain ⟨h1, h2, h3⟩ := partR_fit hF hW i
      rcases h3 with h3 | h3
      · exact ih _ (by omega) h1 h2 A n c w' (ht.below hb) hr
      · rw [h3]
        have e : mkT ⟨0, 0, [], []⟩ = Tr.num (((0 : Int) % 2001 - 1000 : Int) : Rat) := by
          rw [mkT_eq]; unfold mkK; rw [if_pos (.inl (by decide))]
        rw [e]
        exact mk_int0 ⟨0, 0, [], []⟩ A n c w' (ht.below hb) (by decide)
    rcases hc with h | h | h | h | h | h | h | h
    · rw [mkK, if_pos (.inl h)]; exact mk_int0 r A n c w ht h
    · rw [mkK, if_pos (.inr h)]; exact mk_int1 r A n c w ht h
    · rw [mkK, if_neg (by omega), if_pos h]; exact mk_rat r A n c w ht h hF.s
    · rw [mkK, if_neg (by omega), if_neg (by omega), if_pos h]; exact mk_sym r A n c w h
    · rw [mkK, if_neg (by omega), if_neg (by omega), if_neg (by omega), if_pos h]; exact mk_txt r A n c w h
    · rw [mkK, if_neg (by omega), if_neg (by omega), if_neg (by omega), if_neg (by omega), if_pos h, ← partR_mk, ← partR_mk]
      exact mk_cons ok r A n c w h hP _ _ (HPA 0) (HPA 1)
    · rw [hlist _ (.inl h), Tr.list_ob, List.map_map]
      exact mk_list6 ok r A n c w h hP (by omega) _ HLI
    · rw [hlist _ (.inr h), Tr.list_ob, List.map_map]
      exact mk_list7 ok r A n c w h hP (by omega) _ HLI
end Go.Proofs.YtgphkgmhcmffnaaGreatDoor
