/- lispproverlaw2.ObjectLists returns true. -/
import Derived.Test.YtcdgckbdplkdbaaGreatDoorObjMade
namespace Go.Proofs.YtcdgckbdplkdbaaGreatDoor
open Go.RowKit

/-- from the front: the way down is one -/
theorem Tail.front {o x : Ob} {l : List Ob} (h : Tail o l x) : (l = [] ∧ x = o) ∨ ∃ a d r, o.kind = 4 ∧ o.pair = [a, d] ∧ l = a :: r ∧ Tail d r x := by
  induction h with
  | refl => exact .inl ⟨rfl, rfl⟩
  | step h hk hp ih =>
    rcases ih with ⟨rfl, rfl⟩ | ⟨a, d, r, h1, h2, rfl, h4⟩
    · exact .inr ⟨_, _, [], hk, hp, rfl, .refl _⟩
    · exact .inr ⟨a, d, r ++ [_], h1, h2, rfl, .step h4 hk hp⟩
theorem Tail.unique : ∀ {o x y : Ob} {l m : List Ob}, Tail o l x → Tail o m y → ¬ ConsO x → ¬ ConsO y → l = m ∧ x = y := by
  intro o
  induction o using Ob.ind with
  | step o ih =>
    intro x y l m h1 h2 hx hy
    rcases h1.front with ⟨rfl, rfl⟩ | ⟨a, d, r, k1, p1, rfl, t1⟩
    · rcases h2.front with ⟨rfl, rfl⟩ | ⟨a, d, r, k2, p2, rfl, t2⟩
      · exact ⟨rfl, rfl⟩
      · exact absurd ⟨k2, by rw [p2]; rfl⟩ hx
    · rcases h2.front with ⟨rfl, rfl⟩ | ⟨a', d', r', k2, p2, rfl, t2⟩
      · exact absurd ⟨k1, by rw [p1]; rfl⟩ hy
      · rw [p1] at p2
        injection p2 with e1 e2
        injection e2 with e2
        subst e1 e2
        obtain ⟨h3, h4⟩ := ih d (by rw [p1]; simp) t1 t2 hx hy
        exact ⟨by rw [h3], h4⟩
theorem tail_list : ∀ l : List Ob, Tail (listO l) l nilO := by
  have key : ∀ (l pre : List Ob) (o : Ob), Tail o pre (listO l) → Tail o (pre ++ l) nilO := by
    intro l
    induction l with
    | nil => intro pre o h; rw [List.append_nil]; exact h
    | cons a r ih =>
      intro pre o h
      have := ih (pre ++ [a]) o (.step h rfl rfl)
      rwa [List.append_assoc] at this
  intro l
  exact key l [] (listO l) (.refl _)
theorem Tail.tree : ∀ {t : Tr} {l : List Ob} {x : Ob}, Tail t.ob l x → ∃ t' : Tr, x = t'.ob := by
  intro t
  induction t with
  | num q =>
    intro l x h
    rcases h.front with ⟨_, rfl⟩ | ⟨a, d, r, h1, _⟩
    · exact ⟨.num q, rfl⟩
    · cases h1
  | txt q =>
    intro l x h
    rcases h.front with ⟨_, rfl⟩ | ⟨a, d, r, h1, _⟩
    · exact ⟨.txt q, rfl⟩
    · cases h1
  | sym p q =>
    intro l x h
    rcases h.front with ⟨_, rfl⟩ | ⟨a, d, r, h1, _⟩
    · exact ⟨.sym p q, rfl⟩
    · cases h1
  | cons a d iha ihd =>
    intro l x h
    rcases h.front with ⟨_, rfl⟩ | ⟨a', d', r, _, h2, _, h4⟩
    · exact ⟨.cons a d, rfl⟩
    · injection h2 with e1 e2
      injection e2 with e2
      subst e2
      exact ihd h4
theorem isNil_tree (t : Tr) : IsNilO t.ob ↔ t.ob = nilO := by
  cases t with
  | num q => exact ⟨(fun h => by cases h.1), fun h => by injection h with h; cases h⟩
  | txt q => exact ⟨(fun h => by cases h.1), fun h => by injection h with h; cases h⟩
  | sym p q =>
    refine ⟨fun h => ?_, fun h => by rw [h]; exact ⟨rfl, rfl, rfl⟩⟩
    obtain ⟨_, h1, h2⟩ := h
    have e1 : p = lispB := h1
    have e2 : q = nilB := h2
    subst e1 e2
    rfl
  | cons a d => exact ⟨(fun h => by cases h.1), fun h => by injection h with h; cases h⟩
theorem listO_wf : ∀ {l : List Ob}, (∀ x ∈ l, x.Wf) → (listO l).Wf
  | [], _ => nil_wf
  | a :: _, h => cons_wf (h a (List.mem_cons_self ..)) (listO_wf fun x hx => h x (List.mem_cons_of_mem _ hx))
theorem listO_size : ∀ l : List Ob, (listO l).size = Ob.sizeL l + l.length + 1
  | [] => rfl
  | a :: r => by
    show (consO a (listO r)).size = _
    simp only [Ob.size, Ob.sizeL, listO_size r, List.length_cons]
    omega
theorem sizeL_le {l : List Ob} {k : Nat} (h : ∀ x ∈ l, x.size ≤ k) : Ob.sizeL l ≤ k * l.length := by
  induction l with
  | nil => simp [Ob.sizeL]
  | cons a r ih =>
    have h1 := h a (List.mem_cons_self ..)
    have h2 := ih fun x hx => h x (List.mem_cons_of_mem _ hx)
    simp only [Ob.sizeL, List.length_cons, Nat.mul_add]
    omega
/-- the elements of a list of trees, given by both texts -/
def RetIt (ok : Nat → Prop) (l : Option (List Ob)) (w : World) (e : Ending) (w' : World) : Prop :=
  (match l with
  | some l => ∃ A c, e = .returned (.tuple #[.slice A l.length c, .bool true]) ∧ Rd (fun b => ok b ∨ w.heap.size ≤ b) w' (.slice A l.length c) (.row (l.map Ob.enc))
  | none => e = .returned (.tuple #[.slice none 0 0, .bool false])) ∧ Below w.heap.size w w'
theorem RetItems.it {ok : Nat → Prop} {o : Ob} {w w' : World} {e : Ending} {l : List Ob} {x : Ob} (h : RetItems ok o w e w') (hT : Tail o l x) (hx : ¬ ConsO x) : RetIt ok (if IsNilO x then some l else none) w e w' := by
  obtain ⟨l', x', h1, h2, hb, h3⟩ := h
  obtain ⟨rfl, rfl⟩ := Tail.unique h1 hT h2 hx
  rcases h3 with ⟨h4, A, n, c, h5, h6⟩ | ⟨h4, h5⟩
  · rw [if_pos h4]
    have := h6.len
    rw [List.length_map] at this
    subst this
    exact ⟨⟨A, c, h5, h6⟩, hb⟩
  · rw [if_neg h4]
    exact ⟨h5, hb⟩
theorem RetItemsR.it {ok : Nat → Prop} {o : Ob} {w w' : World} {e : Ending} {l : List Ob} {x : Ob} (h : RetItemsR ok o w e w') (hT : Tail o l x) (hx : ¬ ConsO x) (ht : IsNilO x ↔ x = nilO) : RetIt ok (if IsNilO x then some l else none) w e w' := by
  obtain ⟨l', x', h1, h2, hb, h3⟩ := h
  obtain ⟨rfl, rfl⟩ := Tail.unique h1 hT h2 hx
  rcases h3 with ⟨h4, A, n, c, h5, h6⟩ | ⟨h4, h5⟩
  · rw [if_pos (ht.2 h4)]
    have := h6.len
    rw [List.length_map] at this
    subst this
    exact ⟨⟨A, c, h5, h6⟩, hb⟩
  · rw [if_neg (fun h => h4 (ht.1 h))]
    exact ⟨h5, hb⟩
theorem Tail.exists : ∀ t : Tr, ∃ l x, Tail t.ob l x ∧ ¬ ConsO x := by
  have key : ∀ (t : Tr) (o : Ob) (pre : List Ob), Tail o pre t.ob → ∃ l x, Tail o l x ∧ ¬ ConsO x := by
    intro t
    induction t with
    | num q => intro o pre h; exact ⟨pre, _, h, fun h => by cases h.1⟩
    | txt q => intro o pre h; exact ⟨pre, _, h, fun h => by cases h.1⟩
    | sym p q => intro o pre h; exact ⟨pre, _, h, fun h => by cases h.1⟩
    | cons a d iha ihd => intro o pre h; exact ihd o (pre ++ [a.ob]) (.step h rfl rfl)
  intro t
  exact key t t.ob [] (.refl _)
set_option maxHeartbeats 8000000 in
set_option maxRecDepth 100000 in
theorem lists_any (w : World) (ht : Tab w) (l : List Raw) (hwl : ∀ x ∈ l, x.Wf) (Al : Option Addr) (nl cl : Nat) (hnl : nl ≤ 9223372036854775807) (hPl : Rd (fun _ => True) w (.slice Al nl cl) (.row (l.map Raw.enc))) (r : Raw) (hw : r.Wf) (A : Option Addr) (n c : Nat) (hP : Rd (fun _ => True) w (.slice A n c) (.row (r.l.map Raw.enc))) :
    Calls Tryz.prog 6 #[.slice Al nl cl, rawV r (.slice A n c)] w (RetTrue2 w) := by
  go_enter Tryz.func6, Tryz.ntmps6
  go_wp2_with fail
  have X0 := Lib.hid (BlkIs.new w 33 (rawCells r (.slice A n c)))
  have b0 := box w (.cells (rawCells r (.slice A n c)) 33)
  generalize w.alloc (.cells (rawCells r (.slice A n c)) 33) = w0 at *
  refine (first2_any _ (ht.below b0)).mono ?_
  rintro e w1 ⟨rfl, hb1⟩
  have b1 := then_ b0 hb1
  have X1 := Lib.hid (X0.out.below hb1)
  go_wp2_with fail
  refine (fewAll_any (fun _ => True) l hwl Al nl cl 20 _ (hPl.under b1) (by omega) hnl).mono ?_
  rintro e w2 ⟨bb, rfl, hbb, hb2⟩
  have b2 := then_ b1 hb2
  cases bb with
  | false =>
    clear hbb
    go_wp2
    go_ret
    exact ⟨rfl, b2⟩
  | true =>
  have HFL := Lib.hid (hbb rfl)
  clear hbb
  have X2 := Lib.hid (X1.out.below hb2)
  obtain ⟨x0, x1, x2, x3, xl⟩ := X2.out.four
  go_wp2_with fail
  refine (few_any (fun _ => True) r hw A n c 40 _ (hP.under b2) (by omega)).mono ?_
  rintro e w3 ⟨bb, rfl, hbb, hb3⟩
  have b3 := then_ b2 hb3
  clear x0 x1 x2 x3 xl
  cases bb with
  | false =>
    clear hbb
    go_wp2
    go_ret
    exact ⟨rfl, b3⟩
  | true =>
  have HF := Lib.hid (hbb rfl)
  clear hbb
  have X3 := Lib.hid (X2.out.below hb3)
  have hlen : l.length = nl := by have := hPl.len; rwa [List.length_map] at this
  have hn8 : nl ≤ 8 := by rw [← hlen]; exact HFL.out.1
  have HO := Lib.hid (mkOs_any (fun _ => True) l (fun x hx => ⟨(HFL.out.2 x hx).1, hwl x hx⟩) Al nl cl w3 (ht.below b3) (hPl.under b3) hn8)
  have HOW : Hid (∀ x ∈ l.map (fun r => (mkT r).ob), x.Wf ∧ x.size ≤ 80) := fun x hx => by
    obtain ⟨y, hy, rfl⟩ := List.mem_map.1 hx
    have h1 := HFL.out.2 y hy
    have h2 := mkT_size y
    exact ⟨(mkT_ok y h1.1).wf (by omega), by rw [Tr.size_ob]; omega⟩
  have hL : (l.map (fun r => (mkT r).ob)).length = nl := by rw [List.length_map]; exact hlen
  have HL := Lib.hid hL
  generalize l.map (fun r => (mkT r).ob) = os at *
  clear hlen hL HFL hwl hPl
  go_wp2_with fail
  refine HO.out.mono ?_
  rintro e w4 ⟨Ag, cg, rfl, hg4, hb4⟩
  have b4 := then_ b3 hb4
  have X4 := Lib.hid (X3.out.below hb4)
  have hg : Rd (fun _ => True) w4 (.slice Ag nl cg) (.row (os.map Ob.enc)) := hg4.mono fun _ _ _ => trivial
  clear HO hg4 X0 X1 X2 X3 hb1 hb2 hb3 hb4 b0 b1 b2 b3
  go_wp2_with fail
  refine (oList_any (fun _ => True) os Ag nl cg w4 hg (by omega)).mono ?_
  have HSZ : Hid ((listO os).size ≤ 1000000) := by
    have h1 := listO_size os
    have h2 := sizeL_le (k := 80) fun x hx => (HOW.out x hx).2
    have h3 := HL.out
    show (listO os).size ≤ 1000000
    rw [h1]
    have h4 : Ob.sizeL os ≤ 80 * nl := by rw [← h3]; exact h2
    omega
  have HWF : Hid ((listO os).Wf) := listO_wf fun x hx => (HOW.out x hx).1
  have HTL := Lib.hid (tail_list os)
  have HI : Hid (∀ (ok : Nat → Prop) (A : Option Addr) (n c : Nat) (w' : World), Rd ok w' (.slice A n c) (.row ((listO os).pair.map Ob.enc)) → Calls Tryz.prog 36 #[objV (listO os) (.slice A n c)] w' (RetIt ok (some os) w')) := fun ok A n c w' h => (oItems_any ok (listO os) A n c w' h HSZ.out HWF.out).mono fun _ _ h' => by
    have := h'.it HTL.out (fun h => by cases h.1)
    rwa [if_pos ⟨rfl, rfl, rfl⟩] at this
  have HRL : Hid (∀ (A : Option Addr) (n c : Nat) (w' : World), Rd (fun _ => True) w' (.slice A n c) (.row (os.map Ob.enc)) → n ≤ 8 → Calls Tryz.prog 37 #[.slice A n c] w' (RetObj (fun _ => True) (listO os) w')) := fun A n c w' h h8 => rList_any (fun _ => True) os A n c w' h (by omega)
  have HEQ : Hid (∀ (A1 A2 : Option Addr) (n1 n2 c1 c2 : Nat) (ok ok' : Nat → Prop) (w' : World), Rd ok w' (.slice A1 n1 c1) (.row ((listO os).pair.map Ob.enc)) → Rd ok' w' (.slice A2 n2 c2) (.row ((listO os).pair.map Ob.enc)) → Calls Tryz.prog 15 #[objV (listO os) (.slice A1 n1 c1), objV (listO os) (.slice A2 n2 c2)] w' (RetBel (.bool true) w')) := fun A1 A2 n1 n2 c1 c2 ok ok' w' h1 h2 => rEqual_yes HWF.out h1 h2
  generalize listO os = ol at *
  clear HSZ HWF HTL
  rintro e w5 ⟨Ao, no, co, rfl, hro, hb5⟩
  have b5 := then_ b4 hb5
  have X5 := Lib.hid (X4.out.below hb5)
  have hg5 := hg.under hb5
  go_wp2_with fail
  have O6 := Lib.hid (BlkIs.new w5 26 (obCells ol (.slice Ao no co)))
  have X6 := Lib.hid (X5.out.alloc (.cells (obCells ol (.slice Ao no co)) 26))
  have b6 := box2 b5 (.cells (obCells ol (.slice Ao no co)) 26)
  have hg6 := hg5.under (box w5 (.cells (obCells ol (.slice Ao no co)) 26))
  have hr6 : Rd (fun _ => True) (w5.alloc (.cells (obCells ol (.slice Ao no co)) 26)) (.slice Ao no co) (.row (ol.pair.map Ob.enc)) := (hro.under (box w5 (.cells (obCells ol (.slice Ao no co)) 26))).mono fun _ _ _ => trivial
  generalize w5.alloc (.cells (obCells ol (.slice Ao no co)) 26) = w6 at *
  generalize w5.heap.size = go at *
  clear hro hg hg5 X4 X5 b4 b5 hb5
  refine (HI.out _ Ao no co w6 hr6).mono ?_
  rintro e w7 ⟨⟨Ai, ci, rfl, hi7⟩, hb7⟩
  have b7 := then_ b6 hb7
  have X7 := Lib.hid (X6.out.below hb7)
  have O7 := Lib.hid (O6.out.below hb7)
  have hg7 := hg6.under hb7
  have hr7 := hr6.under hb7
  have hi : Rd (fun _ => True) w7 (.slice Ai nl ci) (.row (os.map Ob.enc)) := by rw [← HL.out]; exact hi7.mono fun _ _ _ => trivial
  rw [HL.out]
  clear hi7 hg6 hr6 X6 O6 b6 hb7 HI
  have HL1 : Hid (∀ w' : World, Below w7.heap.size w7 w' → Calls Tryz.prog 37 #[.slice Ag nl cg] w' (RetObj (fun _ => True) ol w')) := fun w' hb' => HRL.out Ag nl cg w' (hg7.under hb') hn8
  have HE1 : Hid (∀ (A2 : Option Addr) (n2 c2 : Nat) (ok' : Nat → Prop) (w' : World), Below w7.heap.size w7 w' → Rd ok' w' (.slice A2 n2 c2) (.row (ol.pair.map Ob.enc)) → Calls Tryz.prog 15 #[objV ol (.slice Ao no co), objV ol (.slice A2 n2 c2)] w' (RetBel (.bool true) w')) := fun A2 n2 c2 ok' w' hb' h2 => HEQ.out Ao A2 no n2 co c2 _ ok' w' (hr7.under hb') h2
  clear HRL HEQ
  go_upto_region 8 with (fail)
  obtain ⟨os0, os1, os2, os3, os4, os5, os6, osl⟩ := O7.out.seven
  have c0 : Below w7.heap.size w7 w7.drew := (Below.refl _ _).drew
  have O0 := Lib.hid O7.out.drew
  have hnn : ((nl : Int) != (nl : Int)) = false := by simp
  go_region_held3 (fun w' => w'.cell? ⟨go, 0, none⟩ = some (.int .i64 ol.kind) ∧ w'.cell? ⟨go, 1, none⟩ = some (str ol.num) ∧ w'.cell? ⟨go, 2, none⟩ = some (str ol.den) ∧ w'.cell? ⟨go, 3, none⟩ = some (str ol.sp) ∧ w'.cell? ⟨go, 4, none⟩ = some (str ol.sn) ∧ w'.cell? ⟨go, 5, none⟩ = some (str ol.text) ∧ w'.cell? ⟨go, 6, none⟩ = some (.slice Ao no co)) (first | ((refine ⟨?_, ?_, ?_, ?_, ?_, ?_, ?_⟩) <;> assumption) | go_keep)
    (first | (go_at_call 37; ((with_reducible refine (HL1.out _ c0).mono ?_)); rintro e v1 ⟨A8, n8, c8, rfl, hr8, hb8⟩; have c1 := then_ c0 hb8; have O1 := Lib.hid (O0.out.below hb8); obtain ⟨oc1_0, oc1_1, oc1_2, oc1_3, oc1_4, oc1_5, oc1_6, oc1_l⟩ := O1.out.seven) | (go_at_call 15; ((with_reducible refine (HE1.out A8 n8 c8 _ _ c1 hr8).mono ?_)); rintro e v2 ⟨rfl, hb9⟩; have c2 := then_ c1 hb9; have O2 := Lib.hid (O1.out.below hb9); obtain ⟨oc2_0, oc2_1, oc2_2, oc2_3, oc2_4, oc2_5, oc2_6, oc2_l⟩ := O2.out.seven))
  have b8 := then_ b7 c2
  have X8 := Lib.hid (X7.out.below c2)
  have hg8 := hg7.under c2
  have hi8 := hi.under c2
  clear os0 oc1_0 oc2_0 os1 oc1_1 oc2_1 os2 oc1_2 oc2_2 os3 oc1_3 oc2_3 os4 oc1_4 oc2_4 os5 oc1_5 oc2_5 os6 oc1_6 oc2_6 O0 O1 O2 O7 hr8 hb8 hb9 c0 c1 c2 hg7 hr7 hi X7 b7 HL1 HE1
  go_wp2
  go_loopw [9] (fun ix wr => ∃ i : Nat, ix = .int .i64 i ∧ i ≤ nl ∧ Below v2.heap.size v2 wr) (fun ix _ => nl - (intOf ix).toNat)
  case atStart => exact ⟨0, rfl, Nat.zero_le _, Below.refl _ _⟩
  case round =>
    obtain ⟨i, rfl, hi0, hbl⟩ := hrel
    by_cases hin : i < nl
    · obtain ⟨p1, q1, hil, A4, n4, c4, rfl, hp1, _, a0, a1, a2, a3, a4, a5, a6, ha⟩ := hi8.objs hbl (i := i) hin
      obtain ⟨p2, q2, _, A5, n5, c5, rfl, hp2, _, e0, e1, e2, e3, e4, e5, e6, he⟩ := hg8.objs hbl (i := i) hin
      have hp1' := Nat.lt_of_lt_of_le hp1 hbl.size
      have hp2' := Nat.lt_of_lt_of_le hp2 hbl.size
      have hbd := hbl.drew
      have HC := Lib.hid (rEqual_yes (HOW.out os[i] (List.getElem_mem hil)).1 (ha.under hbd) (he.under hbd))
      have hi1 : (0 : Int) ≤ (i : Int) := by omega
      have hi2 : (i : Int) < nl := by omega
      generalize os[i] = y at *
      go_upto_region 13 with (fail)
      go_still_tail 8, (by kernel_rfl)
      go_wp2_with fail
      refine HC.out.mono ?_
      rintro e v3 ⟨rfl, hb3⟩
      go_wp2
      go_roundw
      case rel => exact ⟨i + 1, by go_num, by omega, then_ hbd hb3⟩
      case measure => simp only [intOf]; omega
    · obtain rfl : i = nl := by omega
      have b9 := then_ b8 hbl
      have X9 := Lib.hid (X8.out.below hbl)
      have HO := Lib.hid (mkO_any (fun _ => True) r.size r (Nat.le_refl _) HF.out.1 hw A n c wr (ht.below b9) (hP.under b9))
      have hwf := (mkT_ok r HF.out.1).wf (by omega)
      have hsz : (mkT r).ob.size ≤ 1000000 := by rw [Tr.size_ob]; have := mkT_size r; have := HF.out.2; omega
      obtain ⟨l1, x1, hT, hx⟩ := Tail.exists (mkT r)
      obtain ⟨t1, ht1⟩ := hT.tree
      have HI1 : Hid (∀ (A : Option Addr) (n c : Nat) (w' : World), Rd (fun _ => True) w' (.slice A n c) (.row ((mkT r).ob.pair.map Ob.enc)) → Calls Tryz.prog 36 #[objV (mkT r).ob (.slice A n c)] w' (RetIt (fun _ => True) (if IsNilO x1 then some l1 else none) w')) := fun A n c w' h => (oItems_any (fun _ => True) (mkT r).ob A n c w' h hsz hwf).mono fun _ _ h' => h'.it hT hx
      have HI2 : Hid (∀ (A : Option Addr) (n c : Nat) (w' : World), Rd (fun _ => True) w' (.slice A n c) (.row ((mkT r).ob.pair.map Ob.enc)) → Calls Tryz.prog 38 #[objV (mkT r).ob (.slice A n c)] w' (RetIt (fun _ => True) (if IsNilO x1 then some l1 else none) w')) := fun A n c w' h => (rItems_any (fun _ => True) (mkT r).ob A n c w' h hsz hwf).mono fun _ _ h' => h'.it hT hx (by rw [ht1]; exact isNil_tree t1)
      have HN1 : Hid (∀ (A : Option Addr) (n c : Nat) (w' : World), Calls Tryz.prog 39 #[objV (mkT r).ob (.slice A n c)] w' (RetBel (.bool (decide (IsNilO (mkT r).ob))) w')) := fun A n c w' => oIsNil_any (mkT r).ob A n c w'
      have HN2 : Hid (∀ (A : Option Addr) (n c : Nat) (w' : World), Rd (fun _ => True) w' (.slice A n c) (.row ((mkT r).ob.pair.map Ob.enc)) → Calls Tryz.prog 40 #[objV (mkT r).ob (.slice A n c)] w' (RetBel (.bool (decide (IsNilO (mkT r).ob))) w')) := fun A n c w' h => (rIsNil_any (fun _ => True) (mkT r).ob hwf A n c w' h).mono fun _ _ ⟨bb, h1, h2, h3⟩ => by
        refine ⟨?_, h3⟩
        rw [h1, show bb = decide (IsNilO (mkT r).ob) by
          cases bb with
          | true => rw [decide_eq_true ((isNil_tree _).2 (h2.1 rfl))]
          | false => rw [decide_eq_false (fun h => by have := h2.2 ((isNil_tree _).1 h); cases this)]]
      have HM1 : Hid (∀ (A : Option Addr) (n c : Nat) (w' : World), Calls Tryz.prog 41 #[objV (mkT r).ob (.slice A n c)] w' (RetBel (.bool (decide ((mkT r).ob.kind = 1 ∧ (mkT r).ob.den = [49]))) w')) := fun A n c w' => oIsInteger_any (mkT r).ob A n c w'
      have HM2 : Hid (∀ (A : Option Addr) (n c : Nat) (w' : World), Calls Tryz.prog 42 #[objV (mkT r).ob (.slice A n c)] w' (RetBel (.bool (decide ((mkT r).ob.kind = 1 ∧ (mkT r).ob.den = [49]))) w')) := fun A n c w' => rIsInteger_any (mkT r).ob A n c w'
      clear hwf hsz hT hx ht1
      generalize decide (IsNilO (mkT r).ob) = bn at *
      generalize decide ((mkT r).ob.kind = 1 ∧ (mkT r).ob.den = [49]) = bi at *
      generalize (mkT r).ob = ox at *
      generalize (if IsNilO x1 then some l1 else none) = li at *
      clear hg8 hi8 HF hP hw hbl b8 X8
      obtain ⟨x0, x1', x2, x3, xl⟩ := X9.out.four
      go_wp2_with fail
      refine HO.out.mono ?_
      rintro e w10 ⟨Ax, nx, cx, rfl, hrx, hb10⟩
      have b10 := then_ b9 hb10
      clear x0 x1' x2 x3 xl X9 HO
      go_wp2_with fail
      have X11 := Lib.hid (BlkIs.new w10 26 (obCells ox (.slice Ax nx cx)))
      have b11 := box2 b10 (.cells (obCells ox (.slice Ax nx cx)) 26)
      have hr11 : Rd (fun _ => True) (w10.alloc (.cells (obCells ox (.slice Ax nx cx)) 26)) (.slice Ax nx cx) (.row (ox.pair.map Ob.enc)) := (hrx.under (box w10 (.cells (obCells ox (.slice Ax nx cx)) 26))).mono fun _ _ _ => trivial
      generalize w10.alloc (.cells (obCells ox (.slice Ax nx cx)) 26) = w11 at *
      generalize w10.heap.size = gx at *
      clear hrx b10 hb10 b9
      refine (HI1.out Ax nx cx w11 hr11).mono ?_
      cases li with
      | some li =>
        rintro e w12 ⟨⟨Aa, ca, rfl, _⟩, hb12⟩
        have b12 := then_ b11 hb12
        have X12 := Lib.hid (X11.out.below hb12)
        obtain ⟨y0, y1, y2, y3, y4, y5, y6, yl⟩ := X12.out.seven
        have hr12 := hr11.under hb12
        go_wp2_with fail
        refine (HI2.out Ax nx cx w12 hr12).mono ?_
        rintro e w13 ⟨⟨Ab, cb, rfl, _⟩, hb13⟩
        have b13 := then_ b12 hb13
        have X13 := Lib.hid (X12.out.below hb13)
        have hr13 := hr12.under hb13
        clear y0 y1 y2 y3 y4 y5 y6 X11 X12 hr11 hr12 hb12 hb13 b11 b12
        go_upto_region 18 with (fail)
        obtain ⟨y0, y1, y2, y3, y4, y5, y6, yl⟩ := X13.out.seven
        have b0 := b13.drew
        have c0 : Below w13.heap.size w13 w13.drew := (Below.refl _ _).drew
        have X0 := Lib.hid X13.out.drew
        have hnn : ((li.length : Int) == (li.length : Int)) = true := by simp
        go_region_held3 (fun w' => w'.cell? ⟨gx, 0, none⟩ = some (.int .i64 ox.kind) ∧ w'.cell? ⟨gx, 1, none⟩ = some (str ox.num) ∧ w'.cell? ⟨gx, 2, none⟩ = some (str ox.den) ∧ w'.cell? ⟨gx, 3, none⟩ = some (str ox.sp) ∧ w'.cell? ⟨gx, 4, none⟩ = some (str ox.sn) ∧ w'.cell? ⟨gx, 5, none⟩ = some (str ox.text) ∧ w'.cell? ⟨gx, 6, none⟩ = some (.slice Ax nx cx)) (first | ((refine ⟨?_, ?_, ?_, ?_, ?_, ?_, ?_⟩) <;> assumption) | go_keep)
          (first | (go_at_call 39; ((with_reducible refine (HN1.out Ax nx cx _).mono ?_)); rintro e v21 ⟨rfl, hb1⟩; have b1 := then_ b0 hb1; have c1 := then_ c0 hb1; have X1 := Lib.hid (X0.out.below hb1); obtain ⟨xc1_0, xc1_1, xc1_2, xc1_3, xc1_4, xc1_5, xc1_6, xc1_l⟩ := X1.out.seven) | (go_at_call 40; ((with_reducible refine (HN2.out Ax nx cx _ (hr13.under c1)).mono ?_)); rintro e v22 ⟨rfl, hb2⟩; have b2 := then_ b1 hb2; have c2 := then_ c1 hb2; have X2 := Lib.hid (X1.out.below hb2); obtain ⟨xc2_0, xc2_1, xc2_2, xc2_3, xc2_4, xc2_5, xc2_6, xc2_l⟩ := X2.out.seven) | (go_at_call 41; ((with_reducible refine (HM1.out Ax nx cx _).mono ?_)); rintro e v23 ⟨rfl, hb3⟩; have b3 := then_ b2 hb3; have c3 := then_ c2 hb3; have X3 := Lib.hid (X2.out.below hb3); obtain ⟨xc3_0, xc3_1, xc3_2, xc3_3, xc3_4, xc3_5, xc3_6, xc3_l⟩ := X3.out.seven) | (go_at_call 42; ((with_reducible refine (HM2.out Ax nx cx _).mono ?_)); rintro e v24 ⟨rfl, hb4⟩; have b4 := then_ b3 hb4; have c4 := then_ c3 hb4; have X4 := Lib.hid (X3.out.below hb4); obtain ⟨xc4_0, xc4_1, xc4_2, xc4_3, xc4_4, xc4_5, xc4_6, xc4_l⟩ := X4.out.seven))
        go_wp2
        go_ret
        exact ⟨rfl, b4⟩
      | none =>
        rintro e w12 ⟨rfl, hb12⟩
        have b12 := then_ b11 hb12
        have X12 := Lib.hid (X11.out.below hb12)
        obtain ⟨y0, y1, y2, y3, y4, y5, y6, yl⟩ := X12.out.seven
        have hr12 := hr11.under hb12
        go_wp2_with fail
        refine (HI2.out Ax nx cx w12 hr12).mono ?_
        rintro e w13 ⟨rfl, hb13⟩
        have b13 := then_ b12 hb13
        have X13 := Lib.hid (X12.out.below hb13)
        have hr13 := hr12.under hb13
        clear y0 y1 y2 y3 y4 y5 y6 X11 X12 hr11 hr12 hb12 hb13 b11 b12
        go_upto_region 18 with (fail)
        obtain ⟨y0, y1, y2, y3, y4, y5, y6, yl⟩ := X13.out.seven
        have b0 := b13.drew
        have c0 : Below w13.heap.size w13 w13.drew := (Below.refl _ _).drew
        have X0 := Lib.hid X13.out.drew
        go_region_held3 (fun w' => w'.cell? ⟨gx, 0, none⟩ = some (.int .i64 ox.kind) ∧ w'.cell? ⟨gx, 1, none⟩ = some (str ox.num) ∧ w'.cell? ⟨gx, 2, none⟩ = some (str ox.den) ∧ w'.cell? ⟨gx, 3, none⟩ = some (str ox.sp) ∧ w'.cell? ⟨gx, 4, none⟩ = some (str ox.sn) ∧ w'.cell? ⟨gx, 5, none⟩ = some (str ox.text) ∧ w'.cell? ⟨gx, 6, none⟩ = some (.slice Ax nx cx)) (first | ((refine ⟨?_, ?_, ?_, ?_, ?_, ?_, ?_⟩) <;> assumption) | go_keep)
          (first | (go_at_call 39; ((with_reducible refine (HN1.out Ax nx cx _).mono ?_)); rintro e v21 ⟨rfl, hb1⟩; have b1 := then_ b0 hb1; have c1 := then_ c0 hb1; have X1 := Lib.hid (X0.out.below hb1); obtain ⟨xc1_0, xc1_1, xc1_2, xc1_3, xc1_4, xc1_5, xc1_6, xc1_l⟩ := X1.out.seven) | (go_at_call 40; ((with_reducible refine (HN2.out Ax nx cx _ (hr13.under c1)).mono ?_)); rintro e v22 ⟨rfl, hb2⟩; have b2 := then_ b1 hb2; have c2 := then_ c1 hb2; have X2 := Lib.hid (X1.out.below hb2); obtain ⟨xc2_0, xc2_1, xc2_2, xc2_3, xc2_4, xc2_5, xc2_6, xc2_l⟩ := X2.out.seven) | (go_at_call 41; ((with_reducible refine (HM1.out Ax nx cx _).mono ?_)); rintro e v23 ⟨rfl, hb3⟩; have b3 := then_ b2 hb3; have c3 := then_ c2 hb3; have X3 := Lib.hid (X2.out.below hb3); obtain ⟨xc3_0, xc3_1, xc3_2, xc3_3, xc3_4, xc3_5, xc3_6, xc3_l⟩ := X3.out.seven) | (go_at_call 42; ((with_reducible refine (HM2.out Ax nx cx _).mono ?_)); rintro e v24 ⟨rfl, hb4⟩; have b4 := then_ b3 hb4; have c4 := then_ c3 hb4; have X4 := Lib.hid (X3.out.below hb4); obtain ⟨xc4_0, xc4_1, xc4_2, xc4_3, xc4_4, xc4_5, xc4_6, xc4_l⟩ := X4.out.seven))
        go_wp2
        go_ret
        exact ⟨rfl, b4⟩
end Go.Proofs.YtcdgckbdplkdbaaGreatDoor
