/- Objects: the constructors and the small questions of package object. -/
import Derived.Test.YtcdgckbdplkdbaaDoorObB
import Derived.Test.YtcdgckbdplkdbaaDoorNumI
namespace Go.Proofs.YtcdgckbdplkdbaaDoor
open Go.RowKit

set_option maxHeartbeats 400000 in
theorem oNil_any (w : World) : Calls Tryd.prog 21 #[] w (RetLeaf nilO w) := by
  go_enter Tryd.func21, Tryd.ntmps21
  go_wp2_with fail
  refine (oSymbol_any _ lispB nilB).mono ?_
  rintro e w1 ⟨rfl, hb⟩
  have HB := Lib.hid (BlkIs.via hb)
  obtain ⟨u0, u1, u2, u3, u4, u5, u6, hu⟩ := HB.out.seven
  obtain ⟨f0, f1, f2, f3, f4, f5, f6⟩ := HB.out.frozen7
  go_wp2
  exact ret_obj Tryd.results21 rfl HB.out.put7 rfl ⟨rfl, set7 (via hb) (Nat.le_refl _) _ _ _ _ _ _ _⟩
set_option maxHeartbeats 400000 in
theorem oT_any (w : World) : Calls Tryd.prog 19 #[] w (RetLeaf tO w) := by
  go_enter Tryd.func19, Tryd.ntmps19
  go_wp2_with fail
  refine (oSymbol_any _ lispB [116]).mono ?_
  rintro e w1 ⟨rfl, hb⟩
  have HB := Lib.hid (BlkIs.via hb)
  obtain ⟨u0, u1, u2, u3, u4, u5, u6, hu⟩ := HB.out.seven
  obtain ⟨f0, f1, f2, f3, f4, f5, f6⟩ := HB.out.frozen7
  go_wp2
  exact ret_obj Tryd.results19 rfl HB.out.put7 rfl ⟨rfl, set7 (via hb) (Nat.le_refl _) _ _ _ _ _ _ _⟩
set_option maxHeartbeats 400000 in
theorem oInteger_any (a : List UInt8) (w : World) : Calls Tryd.prog 23 #[str a] w (RetLeaf (numO a [49]) w) := by
  go_enter Tryd.func23, Tryd.ntmps23
  go_wp2
  go_outline
  exact bodyPost_ret (v := objV (numO a [49]) (.slice none 0 0)) (by simp [results, Tryd.results23, go_sem]) rfl ⟨rfl, box _ _⟩
set_option maxHeartbeats 400000 in
theorem oInt_any (n : Int) (w : World) (ht : Tab w) (h0 : -9223372036854775808 ≤ n) (h1 : n ≤ 9223372036854775807) : Calls Tryd.prog 6 #[.int .i64 n] w (RetLeaf (numO (Lib.itoa n) [49]) w) := by
  have HF := Lib.hid (fun w' (hb : Below w.heap.size w w') => fromInt_any n w' (ht.below hb) h0 h1)
  clear h0 h1
  go_enter Tryd.func6, Tryd.ntmps6
  go_wp2_with fail
  refine (HF.out _ (box _ _)).mono ?_
  rintro e w1 ⟨rfl, hb⟩
  go_wp2_with fail
  refine (oInteger_any _ _).mono ?_
  rintro e w2 ⟨rfl, hb2⟩
  have HB := Lib.hid ((BlkIs.via hb).below hb2)
  obtain ⟨u0, u1, u2, u3, u4, u5, u6, hu⟩ := HB.out.seven
  obtain ⟨f0, f1, f2, f3, f4, f5, f6⟩ := HB.out.frozen7
  go_wp2
  exact ret_obj Tryd.results6 rfl HB.out.put7 rfl ⟨rfl, set7 (then_ (via hb) hb2) (Nat.le_refl _) _ _ _ _ _ _ _⟩
set_option maxHeartbeats 400000 in
theorem oRational_any (a b : List UInt8) (w : World) (ha : a.length ≤ 400000) (hb : b.length ≤ 400000) (ht : Tab w) : Calls Tryd.prog 5 #[str a, str b] w (RetLeaf (numO (Lib.itoa (rdN (Dec.dval a) (Dec.dval b))) (Lib.itoa (rdD (Dec.dval a) (Dec.dval b)))) w) := by
  have HF := Lib.hid (fun w' (hw : Below w.heap.size w w') => reduceN_any a b w' ha hb (ht.below hw))
  clear ha hb
  generalize Lib.itoa (rdN (Dec.dval a) (Dec.dval b)) = n at *
  generalize Lib.itoa (rdD (Dec.dval a) (Dec.dval b)) = d at *
  go_enter Tryd.func5, Tryd.ntmps5
  go_wp2_with fail
  refine (HF.out _ (box _ _)).mono ?_
  rintro e w1 ⟨rfl, hb⟩
  have HB := Lib.hid (BlkIs.via hb)
  obtain ⟨u0, u1, u2, u3, u4, u5, u6, hu⟩ := HB.out.seven
  obtain ⟨f0, f1, f2, f3, f4, f5, f6⟩ := HB.out.frozen7
  go_wp2
  exact ret_obj Tryd.results5 rfl HB.out.put7 rfl ⟨rfl, set7 (via hb) (Nat.le_refl _) _ _ _ _ _ _ _⟩
/-- two objects side by side in one block read as a pair -/
theorem rd_pair {ok : Nat → Prop} {a d : Ob} {A A' : Option Addr} {n n' c c' : Nat} {w : World} {g : Nat} {t : TypeId} (hB : BlkIs w g t #[.int .i64 a.kind, str a.num, str a.den, str a.sp, str a.sn, str a.text, .slice A n c, .int .i64 d.kind, str d.num, str d.den, str d.sp, str d.sn, str d.text, .slice A' n' c'])
    (hg : ok g) (ha : Rd ok w (.slice A n c) (.row (a.pair.map Ob.enc))) (hd : Rd ok w (.slice A' n' c') (.row (d.pair.map Ob.enc))) : Rd ok w (.slice (some ⟨g, 0, none⟩) 2 2) (.row ([a, d].map Ob.enc)) := by
  refine Rd.mk (k := 7) rfl (Nat.le_refl _) hB.lt hg (fun i hi => ?_) (fun i j hi hj => ?_)
  · rw [List.getElem_map, Ob.enc_len]
  · simp only [List.getElem_map, Ob.enc_len] at hj
    have hi' : i < 2 := hi
    rw [hB.cell]
    rcases i with _ | _ | i
    · rcases j with _ | _ | _ | _ | _ | _ | _ | j
      all_goals first | omega | skip
      all_goals simp only [List.map_cons, List.getElem_cons_zero, Ob.enc_eq, List.getElem_cons_succ]
      all_goals first | exact ⟨_, rfl, .val _⟩ | exact ⟨_, rfl, ha⟩
    · rcases j with _ | _ | _ | _ | _ | _ | _ | j
      all_goals first | omega | skip
      all_goals simp only [List.map_cons, List.getElem_cons_zero, Ob.enc_eq, List.getElem_cons_succ]
      all_goals first | exact ⟨_, rfl, .val _⟩ | exact ⟨_, rfl, hd⟩
    · omega
theorem cons_ret (ok : Nat → Prop) (a d : Ob) (A A' : Option Addr) (n n' c c' : Nat) (w : World) {b1 b2 b3 : Obj} {t : TypeId} (ha : Rd ok w (.slice A n c) (.row (a.pair.map Ob.enc))) (hd : Rd ok w (.slice A' n' c') (.row (d.pair.map Ob.enc))) :
    RetObj ok (consO a d) w (.returned (objV (consO a d) (.slice (some ⟨w.heap.size + 1 + 1 + 1, 0, none⟩) 2 2))) ((((w.alloc b1).alloc b2).alloc b3).alloc (.cells #[.int .i64 a.kind, str a.num, str a.den, str a.sp, str a.sn, str a.text, .slice A n c, .int .i64 d.kind, str d.num, str d.den, str d.sp, str d.sn, str d.text, .slice A' n' c'] t)) := by
  have hb : Below w.heap.size w (((w.alloc b1).alloc b2).alloc b3) := box2 (box2 (box _ _) _) _
  refine ⟨_, 2, 2, rfl, ?_, box2 hb _⟩
  have hB := BlkIs.new (((w.alloc b1).alloc b2).alloc b3) t #[.int .i64 a.kind, str a.num, str a.den, str a.sp, str a.sn, str a.text, .slice A n c, .int .i64 d.kind, str d.num, str d.den, str d.sp, str d.sn, str d.text, .slice A' n' c']
  have e : (((w.alloc b1).alloc b2).alloc b3).heap.size = w.heap.size + 1 + 1 + 1 := by simp
  rw [e] at hB
  exact rd_pair hB (.inr (by omega)) ((ha.under (box2 hb _)).mono fun _ h _ => .inl h) ((hd.under (box2 hb _)).mono fun _ h _ => .inl h)
set_option maxHeartbeats 400000 in
theorem oCons_any (ok : Nat → Prop) (a d : Ob) (A A' : Option Addr) (n n' c c' : Nat) (w : World) (ha : Rd ok w (.slice A n c) (.row (a.pair.map Ob.enc))) (hd : Rd ok w (.slice A' n' c') (.row (d.pair.map Ob.enc))) :
    Calls Tryd.prog 30 #[objV a (.slice A n c), objV d (.slice A' n' c')] w (RetObj ok (consO a d) w) := by
  go_enter Tryd.func30, Tryd.ntmps30
  go_wp2
  exact ret_obj Tryd.results30 rfl ((BlkIs.new2 w _ _ _ _).alloc _) rfl (cons_ret ok a d A A' n n' c c' w ha hd)
set_option maxHeartbeats 400000 in
theorem oIsCons_any (o : Ob) (A : Option Addr) (n c : Nat) (w : World) (hn : n ≤ 9223372036854775807) :
    Calls Tryd.prog 31 #[objV o (.slice A n c)] w (RetBel (.bool (decide (o.kind = 4 ∧ n = 2))) w) := by
  by_cases hk : o.kind = 4
  · by_cases h2 : n = 2
    · rw [decide_eq_true ⟨hk, h2⟩]
      obtain ⟨k, nm, d, p, s, t, l⟩ := o
      dsimp only at hk
      subst hk h2
      go_enter Tryd.func31, Tryd.ntmps31
      go_wp2
      go_ret
      exact ⟨rfl, box _ _⟩
    · rw [decide_eq_false (fun h => h2 h.2)]
      obtain ⟨k, nm, d, p, s, t, l⟩ := o
      dsimp only at hk
      subst hk
      have hn2 : ((n : Int) == 2) = false := by rw [beq_eq_false_iff_ne]; omega
      clear h2
      go_enter Tryd.func31, Tryd.ntmps31
      go_wp2
      go_ret
      exact ⟨rfl, box _ _⟩
  · rw [decide_eq_false (fun h => hk h.1)]
    obtain ⟨k, nm, d, p, s, t, l⟩ := o
    dsimp only at hk
    have hn2 : (k == 4) = false := by rw [beq_eq_false_iff_ne]; exact hk
    clear hk
    go_enter Tryd.func31, Tryd.ntmps31
    go_wp2
    go_ret
    exact ⟨rfl, box _ _⟩
end Go.Proofs.YtcdgckbdplkdbaaDoor
