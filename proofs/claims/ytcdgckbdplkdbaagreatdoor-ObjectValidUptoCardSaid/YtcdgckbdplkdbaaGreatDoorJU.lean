/- Lists of objects: List and Items of package object. -/
import Derived.Test.YtcdgckbdplkdbaaGreatDoorJT
import Derived.Test.YtcdgckbdplkdbaaGreatDoorJQ
import Derived.Test.YtcdgckbdplkdbaaGreatDoorJP
import Derived.StillTailTactics
import Derived.Deep.LoopGhost
import Derived.Deep.DeepCutAuto
import Derived.Deep.QuietTactic
import Derived.BigQuiet
namespace Go.Proofs.YtcdgckbdplkdbaaGreatDoor
open Go.RowKit

def listO : List Ob → Ob
  | [] => nilO
  | a :: r => consO a (listO r)
theorem Rd.far7 {ok : Nat → Prop} {w : World} {v : Value} {d : Dt} {g : Nat} (h : Rd ok w v d) (hg : ∀ b, ok b → b ≠ g) (v0 v1 v2 v3 v4 v5 v6 : Value) :
    Rd ok (((((((w.setCell ⟨g, 0, none⟩ v0).setCell ⟨g, 1, none⟩ v1).setCell ⟨g, 2, none⟩ v2).setCell ⟨g, 3, none⟩ v3).setCell ⟨g, 4, none⟩ v4).setCell ⟨g, 5, none⟩ v5).setCell ⟨g, 6, none⟩ v6) v d :=
  ((((((h.far (p := ⟨g, 0, none⟩) hg _).far (p := ⟨g, 1, none⟩) hg _).far (p := ⟨g, 2, none⟩) hg _).far (p := ⟨g, 3, none⟩) hg _).far (p := ⟨g, 4, none⟩) hg _).far (p := ⟨g, 5, none⟩) hg _).far (p := ⟨g, 6, none⟩) hg _
theorem drop_cons {l : List Ob} {j : Nat} (h : j < l.length) : listO (l.drop j) = consO l[j] (listO (l.drop (j + 1))) := by
  rw [List.drop_eq_getElem_cons h]; rfl
set_option maxHeartbeats 2000000 in
set_option maxRecDepth 100000 in
theorem oList_any (ok : Nat → Prop) (l : List Ob) (A : Option Addr) (n c : Nat) (w : World) (h : Rd ok w (.slice A n c) (.row (l.map Ob.enc))) (hn : n ≤ 1000000) :
    Calls Tryz.prog 35 #[.slice A n c] w (RetObj ok (listO l) w) := by
  have HL := Lib.hid h.len
  go_enter Tryz.func35, Tryz.ntmps35
  go_wp2_with fail
  refine (oNil_any _).mono ?_
  rintro e w1 ⟨rfl, hb1⟩
  have R1 := Lib.hid (BlkIs.via hb1)
  have b1 : Below w.heap.size w w1 := via hb1
  have hsz := R1.out.lt
  clear hb1
  go_wp2
  go_loopw [4] (fun ix wr => ∃ (j : Nat) (o : Ob) (Ao : Option Addr) (no co : Nat), j ≤ n ∧ ix = .int .i64 ((j : Int) - 1) ∧ Hid (o = listO (l.drop j)) ∧ Hid (BlkIs wr w.heap.size 26 zeroCells) ∧ Hid (BlkIs wr w1.heap.size 26 (obCells o (.slice Ao no co))) ∧ Rd (fun b => (ok b ∧ b < w.heap.size) ∨ w1.heap.size < b) wr (.slice Ao no co) (.row (o.pair.map Ob.enc)) ∧ Below w.heap.size w wr) (fun ix _ => (intOf ix + 1).toNat)
  case atStart => exact ⟨n, nilO, none, 0, 0, Nat.le_refl _, rfl, Lib.hid (by rw [List.drop_of_length_le (by have := HL.out; rw [List.length_map] at this; omega)]; rfl), Lib.hid (R1.out.alloc _), Lib.hid (BlkIs.new w1 _ _), .nil _ _, box2 b1 _⟩
  case round =>
    obtain ⟨j, o, Ao, no, co, hj, rfl, HO, R, X, hr, hb⟩ := hrel
    clear b1 R1
    have hgs := X.out.lt
    obtain ⟨x0, x1, x2, x3, x4, x5, x6, xl⟩ := X.out.seven
    obtain ⟨xf0, xf1, xf2, xf3, xf4, xf5, xf6⟩ := X.out.frozen7
    rcases Nat.eq_zero_or_pos j with h0 | h0
    · subst h0
      obtain ⟨r0, r1, r2, r3, r4, r5, r6, rl⟩ := R.out.seven
      obtain ⟨rf0, rf1, rf2, rf3, rf4, rf5, rf6⟩ := R.out.frozen7
      go_wp2
      have e : o = listO l := by rw [HO.out]; rfl
      refine ret_obj Tryz.results35 rfl R.out.put7 rfl ⟨Ao, no, co, by rw [← e], ?_, set7 hb (Nat.le_refl _) _ _ _ _ _ _ _⟩
      rw [← e]
      refine Rd.mono (hr.far7 (g := w.heap.size) (fun b hb' => by omega) _ _ _ _ _ _ _) (fun b hb' _ => ?_)
      rcases hb' with h1 | h1
      · exact .inl h1.1
      · exact .inr (by omega)
    · obtain ⟨b, q, hil, A3, n3, c3, rfl, hbl, hok, a0, a1, a2, a3, a4, a5, a6, ha⟩ := h.objs hb (i := j - 1) (by omega)
      have hbl' := Nat.lt_of_lt_of_le hbl hb.size
      have HS := Lib.hid (drop_cons hil)
      have hi1 : (0 : Int) ≤ (j : Int) - 1 := by omega
      have hi2 : (j : Int) - 1 < n := by omega
      have hi3 : ((j : Int) - 1).toNat = j - 1 := by omega
      have ha' : Rd (fun b => (ok b ∧ b < w.heap.size) ∨ w1.heap.size < b) wr.drew (.slice A3 n3 c3) (.row ((l[j - 1]).pair.map Ob.enc)) := (((ha.mono fun b h1 h2 => ⟨h1, h2⟩ : Rd (fun b => ok b ∧ b < w.heap.size) w _ _).under hb).mono fun b h1 _ => .inl h1).drew
      have HC := Lib.hid (oCons_any (fun b => (ok b ∧ b < w.heap.size) ∨ w1.heap.size < b) l[j - 1] o A3 Ao n3 no c3 co wr.drew ha' hr.drew)
      have hbd := hb.drew
      go_upto_region 5 with (fail)
      go_still_tail 5, (by kernel_rfl)
      go_wp2_with fail
      refine HC.out.mono ?_
      rintro e v ⟨A5, n5, c5, rfl, hr5, hb5⟩
      have X5 := Lib.hid (X.out.drew.below hb5)
      have R5 := Lib.hid (R.out.drew.below hb5)
      have hv := hb5.size
      have hb5' := then_ hbd hb5
      clear x0 xf0 x1 xf1 x2 xf2 x3 xf3 x4 xf4 x5 xf5 x6 xf6 a0 a1 a2 a3 a4 a5 a6
      obtain ⟨y0, y1, y2, y3, y4, y5, y6, yl⟩ := X5.out.seven
      obtain ⟨yf0, yf1, yf2, yf3, yf4, yf5, yf6⟩ := X5.out.frozen7
      go_wp2
      go_roundw
      case rel =>
        refine ⟨j - 1, consO l[j - 1] o, A5, n5, c5, by omega, by go_num, Lib.hid ?_, Lib.hid (R5.out.far7 (by omega) _ _ _ _ _ _ _), Lib.hid X5.out.put7, ?_, set7 hb5' (by omega) _ _ _ _ _ _ _⟩
        · have := HS.out
          rw [Nat.sub_add_cancel h0, ← HO.out] at this
          exact this.symm
        · refine (hr5.mono (fun b h1 _ => ?_)).far7 (fun b h1 => by omega) _ _ _ _ _ _ _
          rcases h1 with h1 | h1
          · exact h1
          · right
            have : wr.drew.heap.size = wr.heap.size := rfl
            omega
      case measure => simp only [intOf]; omega
/-- o is the elements l consed in front of x -/
inductive Tail : Ob → List Ob → Ob → Prop
  | refl (o : Ob) : Tail o [] o
  | step {o x a d : Ob} {l : List Ob} (h : Tail o l x) (hk : x.kind = 4) (hp : x.pair = [a, d]) : Tail o (l ++ [a]) d
theorem Tail.size {o x : Ob} {l : List Ob} (h : Tail o l x) : x.size + l.length ≤ o.size := by
  induction h with
  | refl => simp
  | step h hk hp ih =>
    rename_i x a d l
    have := Ob.size_pair (o := x) (x := d) (by rw [hp]; simp)
    simp only [List.length_append, List.length_singleton]
    omega
def IsNilO (x : Ob) : Prop := x.kind = 2 ∧ x.sp = lispB ∧ x.sn = nilB
instance (x : Ob) : Decidable (IsNilO x) := inferInstanceAs (Decidable (_ ∧ _ ∧ _))
def ConsO (x : Ob) : Prop := x.kind = 4 ∧ x.pair.length = 2
/-- the elements of a proper list and true, or nothing and false -/
def RetItems (ok : Nat → Prop) (o : Ob) (w : World) (e : Ending) (w' : World) : Prop :=
  ∃ l x, Tail o l x ∧ ¬ ConsO x ∧ Below w.heap.size w w' ∧ ((IsNilO x ∧ ∃ A n c, e = .returned (.tuple #[.slice A n c, .bool true]) ∧ Rd (fun b => ok b ∨ w.heap.size ≤ b) w' (.slice A n c) (.row (l.map Ob.enc))) ∨ (¬ IsNilO x ∧ e = .returned (.tuple #[.slice none 0 0, .bool false])))
theorem infoOb : (Tryz.prog.info? 26).map (fun i => (i.zero, i.size, i.bytes)) = some (some (.agg zeroCells), 7, 112) := by kernel_rfl
theorem src_obj {ok : Nat → Prop} {W : World} {A A2 : Option Addr} {n2 c2 g : Nat} {a : Ob} {E : TypeId} (hB : BlkIs W g E (obCells a (.slice A2 n2 c2))) (hr : Rd (fun b => ok b ∧ A ≠ some ⟨b, 0, none⟩) W (.slice A2 n2 c2) (.row (a.pair.map Ob.enc))) :
    0 < 1 → ∃ b o, (some ⟨g, 0, none⟩ : Option Addr) = some ⟨b, o, none⟩ ∧ ∀ i (hi : i < [a.enc].length), ([a.enc][i]).length = 7 ∧ ∀ j (hj : j < ([a.enc][i]).length), ∃ u, W.cell? ⟨b, o + i * 7 + j, none⟩ = some u ∧ Rd (fun b => ok b ∧ A ≠ some ⟨b, 0, none⟩) W u ([a.enc][i])[j] ∧ u.oneCell' = true :=
  src_blk hB (Ob.enc_len a) (fun j hj => by
    rw [Ob.enc_len] at hj
    simp only [Ob.enc_eq]
    rcases j with _ | _ | _ | _ | _ | _ | _ | j
    · exact ⟨_, rfl, .val _, rfl⟩
    · exact ⟨_, rfl, .val _, rfl⟩
    · exact ⟨_, rfl, .val _, rfl⟩
    · exact ⟨_, rfl, .val _, rfl⟩
    · exact ⟨_, rfl, .val _, rfl⟩
    · exact ⟨_, rfl, .val _, rfl⟩
    · exact ⟨_, rfl, hr, rfl⟩
    · omega)
theorem own_far7 {ok : Nat → Prop} {w : World} {base : Nat} {E : TypeId} {k : Nat} {A : Option Addr} {n c : Nat} {l : List (List Dt)} {g : Nat} (h : OwnD ok w base E k A n c l) (hg : ∀ b, ok b → b ≠ g) (hA : A ≠ some ⟨g, 0, none⟩) (v0 v1 v2 v3 v4 v5 v6 : Value) :
    OwnD ok (((((((w.setCell ⟨g, 0, none⟩ v0).setCell ⟨g, 1, none⟩ v1).setCell ⟨g, 2, none⟩ v2).setCell ⟨g, 3, none⟩ v3).setCell ⟨g, 4, none⟩ v4).setCell ⟨g, 5, none⟩ v5).setCell ⟨g, 6, none⟩ v6) base E k A n c l :=
  ((((((h.far (p := ⟨g, 0, none⟩) hg hA _).far (p := ⟨g, 1, none⟩) hg hA _).far (p := ⟨g, 2, none⟩) hg hA _).far (p := ⟨g, 3, none⟩) hg hA _).far (p := ⟨g, 4, none⟩) hg hA _).far (p := ⟨g, 5, none⟩) hg hA _).far (p := ⟨g, 6, none⟩) hg hA _
set_option maxHeartbeats 2000000 in
set_option maxRecDepth 100000 in
theorem oItems_any (ok : Nat → Prop) (o : Ob) (A : Option Addr) (n c : Nat) (w : World) (h : Rd ok w (.slice A n c) (.row (o.pair.map Ob.enc))) (ho : o.size ≤ 1000000) (hw : o.Wf) :
    Calls Tryz.prog 36 #[objV o (.slice A n c)] w (RetItems ok o w) := by
  go_enter Tryz.func36, Tryz.ntmps36
  go_wp2
  go_loopg [4] o.size (fun gx lv wr => ∃ (x : Ob) (l : List Ob) (A2 A4 : Option Addr) (n2 c2 n4 c4 : Nat), lv = .slice A4 n4 c4 ∧ Hid (BlkIs wr w.heap.size 26 (obCells x (.slice A2 n2 c2))) ∧ Rd ok w (.slice A2 n2 c2) (.row (x.pair.map Ob.enc)) ∧ OwnD (fun b => ok b ∧ b < w.heap.size) wr (w.heap.size + 1) 26 7 A4 n4 c4 (l.map Ob.enc) ∧ Tail o l x ∧ x.Wf ∧ x.size ≤ gx ∧ Below w.heap.size w wr)
  case atStart => exact ⟨o, [], A, none, n, c, 0, 0, rfl, Lib.hid (BlkIs.new w _ _), h, OwnD.nil _ _ _ _ _, .refl o, hw, Nat.le_refl _, box _ _⟩
  case round =>
    obtain ⟨x, l, A2, A4, n2, c2, n4, c4, rfl, X, hr, hown, hT, hxw, hg, hb⟩ := hrel
    have hlt := X.out.lt
    have hlen := hr.len
    rw [List.length_map] at hlen
    have hn2 : n2 ≤ 9223372036854775807 := by rw [← hlen]; exact hxw.len
    have HTS := Lib.hid hT.size
    have HLN := Lib.hid hown.len
    have HC : Hid (∀ w' : World, Calls Tryz.prog 68 #[objV x (.slice A2 n2 c2)] w' (RetBel (.bool (decide (x.kind = 4 ∧ n2 = 2))) w')) := fun w' => oIsCons_any x A2 n2 c2 w' hn2
    by_cases hc : x.kind = 4 ∧ n2 = 2
    · rw [decide_eq_true hc] at HC
      obtain ⟨hk, h2⟩ := hc
      subst h2
      obtain ⟨a, d, had⟩ := Ob.two_of_length hlen
      have hsd := Ob.size_pair (o := x) (x := d) (by rw [had]; simp)
      have hsa := Ob.size_pair (o := x) (x := a) (by rw [had]; simp)
      have HT2 := Lib.hid (hT.step hk had)
      have hwd := hxw.kids (x := d) (by rw [had]; simp)
      rw [had] at hr
      have hn4 : n4 ≤ 1000000 := by
        have h1 := HTS.out
        have h2 := HLN.out
        rw [List.length_map] at h2
        omega
      obtain ⟨xk, xn, xd, xp, xs, xt, xl⟩ := x
      dsimp only at hk had X HC
      subst hk
      clear hlen had hn2 hT hxw
      obtain ⟨x0, x1, x2, x3, x4, x5, x6, xl⟩ := X.out.seven
      obtain ⟨xf0, xf1, xf2, xf3, xf4, xf5, xf6⟩ := X.out.frozen7
      go_wp2_with fail
      refine (HC.out _).mono ?_
      rintro e w1 ⟨rfl, hb1⟩
      have b1 := then_ hb hb1
      have X1 := Lib.hid (X.out.below hb1)
      have hown1 := hown.under hb1
      clear x0 xf0 x1 xf1 x2 xf2 x3 xf3 x4 xf4 x5 xf5 x6 xf6 hown hb
      obtain ⟨x0, x1, x2, x3, x4, x5, x6, xl⟩ := X1.out.seven
      obtain ⟨xf0, xf1, xf2, xf3, xf4, xf5, xf6⟩ := X1.out.frozen7
      obtain ⟨b, q, _, A5, n5, c5, rfl, hbl, hok, a0, a1, a2, a3, a4, a5, a6, ha⟩ := hr.objs b1 (i := 0) (by omega)
      simp only [List.getElem_cons_zero, Nat.zero_mul, Nat.add_zero] at a0 a1 a2 a3 a4 a5 a6 ha
      have hbl' := Nat.lt_of_lt_of_le hbl b1.size
      have hbn := Lib.hid (BlkIs.new w1 26 (obCells a (.slice A5 n5 c5)))
      have HS := Lib.hid (src_obj (A := A4) hbn.out (ok := fun b => ok b ∧ b < w.heap.size) (ha.avoid (box2 b1 _) (fun b h1 h2 => ⟨h1, h2⟩) (fun g e => by have := hown1.from_ g e; omega)))
      have hown1' := hown1.alloc (.cells (obCells a (.slice A5 n5 c5)) 26)
      have hsz1 : w.heap.size + 1 ≤ (w1.alloc (.cells (obCells a (.slice A5 n5 c5)) 26)).heap.size := by have := b1.size; have := X1.out.lt; simp; omega
      have HNE : Hid (A4 ≠ some ⟨w.heap.size, 0, none⟩) := fun e => by have := hown1.from_ w.heap.size e; omega
      have HLT : Hid (w.heap.size < (w1.alloc (.cells (obCells a (.slice A5 n5 c5)) 26)).heap.size) := Nat.lt_of_succ_le hsz1
      go_wp2_with (at_builtin; refine wpList_appD rfl _ _ _ rfl (fun b => ok b ∧ b < w.heap.size) (w.heap.size + 1) 26 _ 7 112 Tryz.underlying24 infoOb rfl (by omega) _ _ _ _ rfl hown1' _ 1 1 [a.enc] rfl rfl HS.out (by unfold maxLen; omega) (by omega) hsz1 ?_; intro A6 c6 w2 hown2 hblk hsz hos htp hou _; have b2 := below_appD (box2 b1 (.cells (obCells a (.slice A5 n5 c5)) 26)) (fun g e => by have := hown1.from_ g e; omega) hblk hsz hos htp hou; have X2 := Lib.hid ((X1.out.alloc (.cells (obCells a (.slice A5 n5 c5)) 26)).keep (hblk w.heap.size HLT.out HNE.out)); clear hblk hsz hos htp hou; obtain ⟨y0, y1, y2, y3, y4, y5, y6, yl⟩ := X2.out.seven; obtain ⟨yf0, yf1, yf2, yf3, yf4, yf5, yf6⟩ := X2.out.frozen7; obtain ⟨b', q', _, A7, n7, c7, eA, _, _, d0, d1, d2, d3, d4, d5, d6, hd⟩ := hr.objs b2 (i := 1) (by omega); injection eA with eA; injection eA with eb eq; subst eb eq; simp only [List.getElem_cons_zero, List.getElem_cons_succ, Nat.one_mul] at d0 d1 d2 d3 d4 d5 d6 hd; have hbl2 := Nat.lt_of_lt_of_le hbl b2.size)
      go_roundg d.size
      case measure => omega
      case rel => exact ⟨d, l ++ [a], A7, A6, n7, c7, n4 + 1, c6, rfl, Lib.hid X2.out.put7, hd, (by rw [List.map_append]; exact own_far7 hown2 (fun b h1 => by omega) (fun e => by have := hown2.from_ _ e; omega) _ _ _ _ _ _ _), HT2.out, hwd, Nat.le_refl _, set7 b2 (Nat.le_refl _) _ _ _ _ _ _ _⟩
    · rw [decide_eq_false hc] at HC
      have HNC : Hid (¬ ConsO x) := fun h1 => hc ⟨h1.1, by rw [← hlen]; exact h1.2⟩
      obtain ⟨x0, x1, x2, x3, x4, x5, x6, xl⟩ := X.out.seven
      obtain ⟨xf0, xf1, xf2, xf3, xf4, xf5, xf6⟩ := X.out.frozen7
      clear hc hlen
      go_wp2_with fail
      refine (HC.out _).mono ?_
      rintro e w1 ⟨rfl, hb1⟩
      have b1 := then_ hb hb1
      have X1 := Lib.hid (X.out.below hb1)
      have hown1 := hown.under hb1
      clear x0 xf0 x1 xf1 x2 xf2 x3 xf3 x4 xf4 x5 xf5 x6 xf6 hown hb
      obtain ⟨x0, x1, x2, x3, x4, x5, x6, xl⟩ := X1.out.seven
      by_cases hN : IsNilO x
      · have HN : Hid (∀ w' : World, Calls Tryz.prog 39 #[objV x (.slice A2 n2 c2)] w' (RetBel (.bool true) w')) := fun w' => by
          have := oIsNil_any x A2 n2 c2 w'
          rwa [decide_eq_true (p := x.kind = 2 ∧ x.sp = lispB ∧ x.sn = nilB) hN] at this
        go_wp2_with fail
        refine (HN.out _).mono ?_
        rintro e w2 ⟨rfl, hb2⟩
        go_wp2
        refine bodyPost_ret (results_tmp2 Tryz.results36 _ _ _) rfl ?_
        exact ⟨l, x, hT, HNC.out, then_ b1 hb2, .inl ⟨hN, A4, n4, c4, rfl, ((hown1.under hb2).rd.mono fun b h1 _ => h1.elim (fun h2 => .inl h2.1) (fun h2 => .inr (by omega)))⟩⟩
      · have HN : Hid (∀ w' : World, Calls Tryz.prog 39 #[objV x (.slice A2 n2 c2)] w' (RetBel (.bool false) w')) := fun w' => by
          have := oIsNil_any x A2 n2 c2 w'
          rwa [decide_eq_false (p := x.kind = 2 ∧ x.sp = lispB ∧ x.sn = nilB) hN] at this
        go_wp2_with fail
        refine (HN.out _).mono ?_
        rintro e w2 ⟨rfl, hb2⟩
        go_wp2
        refine bodyPost_ret (results_tmp2 Tryz.results36 _ _ _) rfl ?_
        exact ⟨l, x, hT, HNC.out, then_ b1 hb2, .inr ⟨hN, rfl⟩⟩
end Go.Proofs.YtcdgckbdplkdbaaGreatDoor
/- object.Valid is true for objects built of 1, nil and a short string by conses; object.Compare at a string and a symbol. -/
namespace Go.Proofs.YtcdgckbdplkdbaaGreatDoor
open Go.RowKit

set_option maxHeartbeats 400000 in
theorem bare_cons (a d : Ob) (A : Option Addr) (n c : Nat) (w : World) : Calls Tryz.prog 85 #[objV (consO a d) (.slice A n c), .bool false, .bool false, .bool false] w (RetBel (.bool true) w) := by
  go_enter Tryz.func85, Tryz.ntmps85
  go_wp2
  go_ret
  exact ⟨rfl, box _ _⟩
set_option maxHeartbeats 400000 in
theorem bare_num (l r : List UInt8) (A : Option Addr) (n c : Nat) (w : World) : Calls Tryz.prog 85 #[objV (numO l r) (.slice A n c), .bool true, .bool false, .bool false] w (RetBel (.bool true) w) := by
  go_enter Tryz.func85, Tryz.ntmps85
  go_wp2
  go_ret
  exact ⟨rfl, box _ _⟩
set_option maxHeartbeats 400000 in
theorem bare_sym (l r : List UInt8) (A : Option Addr) (n c : Nat) (w : World) : Calls Tryz.prog 85 #[objV (symO l r) (.slice A n c), .bool false, .bool true, .bool false] w (RetBel (.bool true) w) := by
  go_enter Tryz.func85, Tryz.ntmps85
  go_wp2
  go_ret
  exact ⟨rfl, box _ _⟩
set_option maxHeartbeats 400000 in
theorem bare_txt (l : List UInt8) (A : Option Addr) (n c : Nat) (w : World) : Calls Tryz.prog 85 #[objV (txtO l) (.slice A n c), .bool false, .bool false, .bool true] w (RetBel (.bool true) w) := by
  go_enter Tryz.func85, Tryz.ntmps85
  go_wp2
  go_ret
  exact ⟨rfl, box _ _⟩
set_option maxHeartbeats 400000 in
theorem lowest_one (w : World) (ht : Tab w) : Calls Tryz.prog 86 #[str [49], str [49]] w (RetBel (.bool true) w) := by
  have HV : Hid (∀ w' : World, Calls Tryz.prog 111 #[str [49]] w' (RetPure (.bool true) w')) := fun w' => by
    have := valid_any [49] w' (by decide)
    rwa [show Dec.isDec [49] = true by decide] at this
  have HD : Hid (∀ w' : World, Calls Tryz.prog 112 #[str [49]] w' (RetPure (.int .i64 1) w')) := fun w' => by
    have := digits_any [49] w' (by decide)
    rwa [show ((Dec.mag (norm [49])).length : Nat) = 1 by decide +kernel] at this
  have HR : Hid (∀ w' : World, Below w.heap.size w w' → Calls Tryz.prog 63 #[str [49], str [49]] w' (RetStr2 [49] [49] w')) := fun w' hb => by
    have := reduceN_any [49] [49] w' (by decide) (by decide) (ht.below hb)
    rwa [show Lib.itoa (rdN (Dec.dval [49]) (Dec.dval [49])) = [49] by decide +kernel, show Lib.itoa (rdD (Dec.dval [49]) (Dec.dval [49])) = [49] by decide +kernel] at this
  go_enter Tryz.func86, Tryz.ntmps86
  go_wp2_with (first | (go_at_call 111; refine (HV.out _).mono ?_; rintro e w' ⟨rfl, rfl⟩) | (go_at_call 112; refine (HD.out _).mono ?_; rintro e w' ⟨rfl, rfl⟩) | (go_at_call 63; refine (HR.out _ (Below.refl _ _)).mono ?_; rintro e w1 ⟨rfl, hb1⟩))
  go_ret
  exact ⟨rfl, hb1⟩
set_option maxHeartbeats 1000000 in
theorem symbol_nil (w : World) : Calls Tryz.prog 87 #[.agg #[str lispB, str nilB]] w (RetBel (.bool true) w) := by
  go_enter Tryz.func87, Tryz.ntmps87
  go_wp2
  go_loopw [31] (fun ix wr => ∃ i : Nat, i ≤ 4 ∧ ix = .int .i64 i ∧ Hid (BlkIs wr w.heap.size 23 #[str lispB, str nilB]) ∧ Below w.heap.size w wr) (fun ix _ => 4 - (intOf ix).toNat)
  case atStart => exact ⟨0, by omega, rfl, Lib.hid (BlkIs.new w _ _), box _ _⟩
  case round =>
    obtain ⟨i, hi, rfl, X, hb⟩ := hrel
    obtain ⟨x0, x1, _, _, hlt⟩ := X.out.two
    have hc : i = 0 ∨ i = 1 ∨ i = 2 ∨ i = 3 ∨ i = 4 := by omega
    rcases hc with rfl | rfl | rfl | rfl | rfl
    · go_wp2
      go_roundw
      case rel => exact ⟨1, by omega, by go_num, X, hb⟩
      case measure => simp only [intOf]; omega
    · go_wp2
      go_roundw
      case rel => exact ⟨2, by omega, by go_num, X, hb⟩
      case measure => simp only [intOf]; omega
    · go_wp2
      go_roundw
      case rel => exact ⟨3, by omega, by go_num, X, hb⟩
      case measure => simp only [intOf]; omega
    · go_wp2
      go_roundw
      case rel => exact ⟨4, by omega, by go_num, X, hb⟩
      case measure => simp only [intOf]; omega
    · go_wp2
      go_ret
      exact ⟨rfl, hb⟩
inductive Good : Ob → Prop
  | one : Good (numO [49] [49])
  | nil : Good nilO
  | txt : Good (txtO [97])
  | cons {a d : Ob} (ha : Good a) (hd : Good d) : Good (consO a d)
set_option maxHeartbeats 2000000 in
set_option maxRecDepth 100000 in
theorem formed_good (ok : Nat → Prop) : ∀ (N : Nat) (o : Ob), o.size ≤ N → Good o → ∀ (A : Option Addr) (n c : Nat) (w : World), Tab w → Rd ok w (.slice A n c) (.row (o.pair.map Ob.enc)) →
    Calls Tryz.prog 55 #[objV o (.slice A n c)] w (RetBel (.bool true) w) := by
  intro N
  induction N with
  | zero => intro o h; have := Ob.size_pos o; omega
  | succ N ih =>
    intro o hN hG A n c w ht hP
    go_enter Tryz.func55, Tryz.ntmps55
    go_wp2
    go_loopg [2] o.size (fun gx lv wr => ∃ (x : Ob) (A2 : Option Addr) (n2 c2 : Nat), lv = .bool false ∧ Hid (BlkIs wr w.heap.size 26 (obCells x (.slice A2 n2 c2))) ∧ Rd ok w (.slice A2 n2 c2) (.row (x.pair.map Ob.enc)) ∧ x.size ≤ N + 1 ∧ Good x ∧ x.size ≤ gx ∧ Below w.heap.size w wr)
    case atStart => exact ⟨o, A, n, c, rfl, Lib.hid (BlkIs.new w _ _), hP, hN, hG, Nat.le_refl _, box _ _⟩
    case round =>
      obtain ⟨x, A2, n2, c2, rfl, X, hr, hxN, hg, hgx, hb⟩ := hrel
      have hlen := hr.len
      rw [List.length_map] at hlen
      obtain ⟨x0, x1, x2, x3, x4, x5, x6, xl⟩ := X.out.seven
      obtain ⟨xf0, xf1, xf2, xf3, xf4, xf5, xf6⟩ := X.out.frozen7
      cases hg with
      | one =>
        obtain rfl : n2 = 0 := hlen.symm
        go_wp2_with fail
        refine (bare_num [49] [49] A2 0 c2 _).mono ?_
        rintro e w1 ⟨rfl, hb1⟩
        have X1 := Lib.hid (X.out.below hb1)
        clear x0 xf0 x1 xf1 x2 xf2 x3 xf3 x4 xf4 x5 xf5 x6 xf6
        obtain ⟨y0, y1, y2, y3, y4, y5, y6, yl⟩ := X1.out.seven
        go_wp2_with fail
        refine (lowest_one _ (ht.below (then_ hb hb1))).mono ?_
        rintro e w2 ⟨rfl, hb2⟩
        go_wp2
        go_ret
        exact ⟨rfl, then_ (then_ hb hb1) hb2⟩
      | nil =>
        obtain rfl : n2 = 0 := hlen.symm
        go_wp2_with fail
        refine (bare_sym lispB nilB A2 0 c2 _).mono ?_
        rintro e w1 ⟨rfl, hb1⟩
        have X1 := Lib.hid (X.out.below hb1)
        clear x0 xf0 x1 xf1 x2 xf2 x3 xf3 x4 xf4 x5 xf5 x6 xf6
        obtain ⟨y0, y1, y2, y3, y4, y5, y6, yl⟩ := X1.out.seven
        go_wp2_with fail
        refine (symbol_nil _).mono ?_
        rintro e w2 ⟨rfl, hb2⟩
        go_wp2
        go_ret
        exact ⟨rfl, then_ (then_ hb hb1) hb2⟩
      | txt =>
        obtain rfl : n2 = 0 := hlen.symm
        go_wp2_with fail
        refine (bare_txt [97] A2 0 c2 _).mono ?_
        rintro e w1 ⟨rfl, hb1⟩
        have X1 := Lib.hid (X.out.below hb1)
        clear x0 xf0 x1 xf1 x2 xf2 x3 xf3 x4 xf4 x5 xf5 x6 xf6
        obtain ⟨y0, y1, y2, y3, y4, y5, y6, yl⟩ := X1.out.seven
        go_wp2
        go_ret
        exact ⟨rfl, then_ hb hb1⟩
      | cons ga gd =>
        rename_i a d
        obtain rfl : n2 = 2 := hlen.symm
        have hsa := Ob.size_pair (o := consO a d) (x := a) (by simp)
        have hsd := Ob.size_pair (o := consO a d) (x := d) (by simp)
        clear hlen
        go_wp2_with fail
        refine (bare_cons a d A2 2 c2 _).mono ?_
        rintro e w1 ⟨rfl, hb1⟩
        have b1 := then_ hb hb1
        have X1 := Lib.hid (X.out.below hb1)
        clear x0 xf0 x1 xf1 x2 xf2 x3 xf3 x4 xf4 x5 xf5 x6 xf6
        obtain ⟨y0, y1, y2, y3, y4, y5, y6, yl⟩ := X1.out.seven
        obtain ⟨b, q, _, A3, n3, c3', rfl, hbl, _, a0, a1, a2, a3, a4, a5, a6, ha⟩ := hr.objs b1 (i := 0) (by omega)
        simp only [List.getElem_cons_zero, Nat.zero_mul, Nat.add_zero] at a0 a1 a2 a3 a4 a5 a6 ha
        have hbl' := Nat.lt_of_lt_of_le hbl b1.size
        go_wp2_with fail
        refine (ih a (by omega) ga A3 n3 c3' _ (ht.below b1) (ha.under b1)).mono ?_
        rintro e w2 ⟨rfl, hb2⟩
        have b2 := then_ b1 hb2
        have X2 := Lib.hid (X1.out.below hb2)
        clear y0 y1 y2 y3 y4 y5 y6 a0 a1 a2 a3 a4 a5 a6
        obtain ⟨z0, z1, z2, z3, z4, z5, z6, zl⟩ := X2.out.seven
        obtain ⟨zf0, zf1, zf2, zf3, zf4, zf5, zf6⟩ := X2.out.frozen7
        obtain ⟨b', q', _, A4, n4, c4', eA, _, _, d0, d1, d2, d3, d4, d5, d6, hd⟩ := hr.objs b2 (i := 1) (by omega)
        injection eA with eA
        injection eA with eb eq
        subst eb eq
        simp only [List.getElem_cons_zero, List.getElem_cons_succ, Nat.one_mul] at d0 d1 d2 d3 d4 d5 d6 hd
        have hbl2 := Nat.lt_of_lt_of_le hbl b2.size
        go_wp2
        go_roundg d.size
        case measure => omega
        case rel => exact ⟨d, A4, n4, c4', rfl, Lib.hid X2.out.put7, hd, by omega, gd, Nat.le_refl _, set7 b2 (Nat.le_refl _) _ _ _ _ _ _ _⟩
set_option maxHeartbeats 400000 in
theorem valid_good (ok : Nat → Prop) (o : Ob) (hG : Good o) (hn : o.nodes ≤ 3000) (A : Option Addr) (n c : Nat) (w : World) (ht : Tab w) (hP : Rd ok w (.slice A n c) (.row (o.pair.map Ob.enc))) :
    Calls Tryz.prog 11 #[objV o (.slice A n c)] w (RetBel (.bool true) w) := by
  have HN : Hid (∀ w' : World, Below w.heap.size w w' → Calls Tryz.prog 13 #[objV o (.slice A n c)] w' (RetBel (.int .i64 (o.nodes : Int)) w')) := fun w' hb => by
    have := oNodes_any ok o A n c w' (hP.under hb)
    rwa [nodesP, if_pos (by omega)] at this
  have HF : Hid (∀ w' : World, Below w.heap.size w w' → Calls Tryz.prog 55 #[objV o (.slice A n c)] w' (RetBel (.bool true) w')) := fun w' hb => formed_good ok o.size o (Nat.le_refl _) hG A n c w' (ht.below hb) (hP.under hb)
  generalize o.nodes = k at *
  go_enter Tryz.func11, Tryz.ntmps11
  go_wp2_with fail
  refine (HN.out _ (box _ _)).mono ?_
  rintro e w1 ⟨rfl, hb1⟩
  have X1 := Lib.hid (BlkIs.via hb1)
  obtain ⟨y0, y1, y2, y3, y4, y5, y6, yl⟩ := X1.out.seven
  have hk : (k : Int) ≤ 3000 := by omega
  go_wp2_with fail
  refine (HF.out _ (via hb1)).mono ?_
  rintro e w2 ⟨rfl, hb2⟩
  go_wp2
  go_ret
  exact ⟨rfl, then_ (via hb1) hb2⟩
end Go.Proofs.YtcdgckbdplkdbaaGreatDoor
