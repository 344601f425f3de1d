/- Lists of objects: List and Items of package object. -/
import Derived.Test.YtgphkgmhcmffnaaGreatDoorJT
import Derived.Test.YtgphkgmhcmffnaaGreatDoorJQ
import Derived.Test.YtgphkgmhcmffnaaGreatDoorJP
import Derived.StillTailTactics
import Derived.Deep.LoopGhost
import Derived.Deep.DeepCutAuto
import Derived.Deep.QuietTactic
import Derived.BigQuiet
namespace Go.Proofs.YtgphkgmhcmffnaaGreatDoor
open Go.RowKit

def listO : List Ob → Ob
  | [] => nilO
  | a :: r => consO a (listO r)
theorem Rd.far7 {ok : Nat → Prop} {w : World} {v : Value} {d : Dt} {g : Nat} (h : Rd ok w v d) (hg : ∀ b, ok b → b ≠ g) (v0 v1 v2 v3 v4 v5 v6 : Value) :
    Rd ok (((((((w.setCell ⟨g, 0, none⟩ v0).setCell ⟨g, 1, none⟩ v1).setCell ⟨g, 2, none⟩ v2).setCell ⟨g, 3, none⟩ v3).setCell ⟨g, 4, none⟩ v4).setCell ⟨g, 5, none⟩ v5).setCell ⟨g, 6, none⟩ v6) v d :=
  ((((((h.far (p := ⟨g, 0, none⟩) hg _).far (p := ⟨g, 1, none⟩) hg _).far (p := ⟨g, 2, none⟩) hg _).far (p := ⟨g, 3, none⟩) hg _).far (p := ⟨g, 4, none⟩) hg _).far (p := ⟨g, 5, none⟩) hg _).far (p := ⟨g, 6, none⟩) hg _
theorem drop_cons {l : List Ob} {j : Nat} (h : j < l.length) : listO (l.drop j) = consO l[j] (listO (l.drop (j + 1))) := by
  rw [List.drop_eq_getElem_cons h]; rfl
/-- o is the elements l consed in front of x -/
inductive Tail : Ob → List Ob → Ob → Prop
  | refl (o : Ob) : Tail o [] o
  | step {o x a d : Ob} {l : List Ob} (h : Tail o l x) (hk : x.kind = 4) (hp : x.pair = [a, d]) : Tail o (l ++ [a]) d
theorem Tail.size {o x : Ob} {l : List Ob} (h : Tail o l x) : x.size + l.length ≤ o.size := by
  induction h with
  | refl => simp
  | step h hk hp ih =>
    rename_i x a d l
    have := Ob.size_pair (o := x) (x := d) (by rw [hp]; simp)
    simp only [List.length_append, List.length_singleton]
    omega
def IsNilO (x : Ob) : Prop := x.kind = 2 ∧ x.sp = lispB ∧ x.sn = nilB
instance (x : Ob) : Decidable (IsNilO x) := inferInstanceAs (Decidable (_ ∧ _ ∧ _))
def ConsO (x : Ob) : Prop := x.kind = 4 ∧ x.pair.length = 2
/-- the elements of a proper list and true, or nothing and false -/
def RetItems (ok : Nat → Prop) (o : Ob) (w : World) (e : Ending) (w' : World) : Prop :=
  ∃ l x, Tail o l x ∧ ¬ ConsO x ∧ Below w.heap.size w w' ∧ ((IsNilO x ∧ ∃ A n c, e = .returned (.tuple #[.slice A n c, .bool true]) ∧ Rd (fun b => ok b ∨ w.heap.size ≤ b) w' (.slice A n c) (.row (l.map Ob.enc))) ∨ (¬ IsNilO x ∧ e = .returned (.tuple #[.slice none 0 0, .bool false])))
theorem infoOb : (Tryz.prog.info? 31).map (fun i => (i.zero, i.size, i.bytes)) = some (some (.agg zeroCells), 7, 112) := by kernel_rfl
theorem src_obj {ok : Nat → Prop} {W : World} {A A2 : Option Addr} {n2 c2 g : Nat} {a : Ob} {E : TypeId} (hB : BlkIs W g E (obCells a (.slice A2 n2 c2))) (hr : Rd (fun b => ok b ∧ A ≠ some ⟨b, 0, none⟩) W (.slice A2 n2 c2) (.row (a.pair.map Ob.enc))) :
    0 < 1 → ∃ b o, (some ⟨g, 0, none⟩ : Option Addr) = some ⟨b, o, none⟩ ∧ ∀ i (hi : i < [a.enc].length), ([a.enc][i]).length = 7 ∧ ∀ j (hj : j < ([a.enc][i]).length), ∃ u, W.cell? ⟨b, o + i * 7 + j, none⟩ = some u ∧ Rd (fun b => ok b ∧ A ≠ some ⟨b, 0, none⟩) W u ([a.enc][i])[j] ∧ u.oneCell' = true :=
  src_blk hB (Ob.enc_len a) (fun j hj => by
    rw [Ob.enc_len] at hj
    simp only [Ob.enc_eq]
    rcases j with _ | _ | _ | _ | _ | _ | _ | j
    · exact ⟨_, rfl, .val _, rfl⟩
    · exact ⟨_, rfl, .val _, rfl⟩
    · exact ⟨_, rfl, .val _, rfl⟩
    · exact ⟨_, rfl, .val _, rfl⟩
    · exact ⟨_, rfl, .val _, rfl⟩
    · exact ⟨_, rfl, .val _, rfl⟩
    · exact ⟨_, rfl, hr, rfl⟩
    · omega)
theorem own_far7 {ok : Nat → Prop} {w : World} {base : Nat} {E : TypeId} {k : Nat} {A : Option Addr} {n c : Nat} {l : List (List Dt)} {g : Nat} (h : OwnD ok w base E k A n c l) (hg : ∀ b, ok b → b ≠ g) (hA : A ≠ some ⟨g, 0, none⟩) (v0 v1 v2 v3 v4 v5 v6 : Value) :
    OwnD ok (((((((w.setCell ⟨g, 0, none⟩ v0).setCell ⟨g, 1, none⟩ v1).setCell ⟨g, 2, none⟩ v2).setCell ⟨g, 3, none⟩ v3).setCell ⟨g, 4, none⟩ v4).setCell ⟨g, 5, none⟩ v5).setCell ⟨g, 6, none⟩ v6) base E k A n c l :=
  ((((((h.far (p := ⟨g, 0, none⟩) hg hA _).far (p := ⟨g, 1, none⟩) hg hA _).far (p := ⟨g, 2, none⟩) hg hA _).far (p := ⟨g, 3, none⟩) hg hA _).far (p := ⟨g, 4, none⟩) hg hA _).far (p := ⟨g, 5, none⟩) hg hA _).far (p := ⟨g, 6, none⟩) hg hA _
end Go.Proofs.YtgphkgmhcmffnaaGreatDoor
/- object.Valid is true for objects built of 1, nil and a short string by conses; object.Compare at a string and a symbol. -/
namespace Go.Proofs.YtgphkgmhcmffnaaGreatDoor
open Go.RowKit

set_option maxHeartbeats 400000 in
theorem bare_cons (a d : Ob) (A : Option Addr) (n c : Nat) (w : World) : Calls Tryz.prog 112 #[objV (consO a d) (.slice A n c), .bool false, .bool false, .bool false] w (RetBel (.bool true) w) := by
  go_enter Tryz.func112, Tryz.ntmps112
  go_wp2
  go_ret
  exact ⟨rfl, box _ _⟩
set_option maxHeartbeats 400000 in
theorem bare_num (l r : List UInt8) (A : Option Addr) (n c : Nat) (w : World) : Calls Tryz.prog 112 #[objV (numO l r) (.slice A n c), .bool true, .bool false, .bool false] w (RetBel (.bool true) w) := by
  go_enter Tryz.func112, Tryz.ntmps112
  go_wp2
  go_ret
  exact ⟨rfl, box _ _⟩
set_option maxHeartbeats 400000 in
theorem bare_sym (l r : List UInt8) (A : Option Addr) (n c : Nat) (w : World) : Calls Tryz.prog 112 #[objV (symO l r) (.slice A n c), .bool false, .bool true, .bool false] w (RetBel (.bool true) w) := by
  go_enter Tryz.func112, Tryz.ntmps112
  go_wp2
  go_ret
  exact ⟨rfl, box _ _⟩
set_option maxHeartbeats 400000 in
theorem bare_txt (l : List UInt8) (A : Option Addr) (n c : Nat) (w : World) : Calls Tryz.prog 112 #[objV (txtO l) (.slice A n c), .bool false, .bool false, .bool true] w (RetBel (.bool true) w) := by
  go_enter Tryz.func112, Tryz.ntmps112
  go_wp2
  go_ret
  exact ⟨rfl, box _ _⟩
set_option maxHeartbeats 400000 in
theorem lowest_one (w : World) (ht : Tab w) : Calls Tryz.prog 113 #[str [49], str [49]] w (RetBel (.bool true) w) := by
  have HV : Hid (∀ w' : World, Calls Tryz.prog 131 #[str [49]] w' (RetPure (.bool true) w')) := fun w' => by
    have := valid_any [49] w' (by decide)
    rwa [show Dec.isDec [49] = true by decide] at this
  have HD : Hid (∀ w' : World, Calls Tryz.prog 132 #[str [49]] w' (RetPure (.int .i64 1) w')) := fun w' => by
    have := digits_any [49] w' (by decide)
    rwa [show ((Dec.mag (norm [49])).length : Nat) = 1 by decide +kernel] at this
  have HR : Hid (∀ w' : World, Below w.heap.size w w' → Calls Tryz.prog 133 #[str [49], str [49]] w' (RetStr2 [49] [49] w')) := fun w' hb => by
    have := reduceN_any [49] [49] w' (by decide) (by decide) (ht.below hb)
    rwa [show Lib.itoa (rdN (Dec.dval [49]) (Dec.dval [49])) = [49] by decide +kernel, show Lib.itoa (rdD (Dec.dval [49]) (Dec.dval [49])) = [49] by decide +kernel] at this
  go_enter Tryz.func113, Tryz.ntmps113
  go_wp2_with (first | (go_at_call 131; refine (HV.out _).mono ?_; rintro e w' ⟨rfl, rfl⟩) | (go_at_call 132; refine (HD.out _).mono ?_; rintro e w' ⟨rfl, rfl⟩) | (go_at_call 133; refine (HR.out _ (Below.refl _ _)).mono ?_; rintro e w1 ⟨rfl, hb1⟩))
  go_ret
  exact ⟨rfl, hb1⟩
set_option maxHeartbeats 1000000 in
theorem symbol_nil (w : World) : Calls Tryz.prog 114 #[.agg #[str lispB, str nilB]] w (RetBel (.bool true) w) := by
  go_enter Tryz.func114, Tryz.ntmps114
  go_wp2
  go_loopw [31] (fun ix wr => ∃ i : Nat, i ≤ 4 ∧ ix = .int .i64 i ∧ Hid (BlkIs wr w.heap.size 28 #[str lispB, str nilB]) ∧ Below w.heap.size w wr) (fun ix _ => 4 - (intOf ix).toNat)
  case atStart => exact ⟨0, by omega, rfl, Lib.hid (BlkIs.new w _ _), box _ _⟩
  case round =>
    obtain ⟨i, hi, rfl, X, hb⟩ := hrel
    obtain ⟨x0, x1, _, _, hlt⟩ := X.out.two
    have hc : i = 0 ∨ i = 1 ∨ i = 2 ∨ i = 3 ∨ i = 4 := by omega
    rcases hc with rfl | rfl | rfl | rfl | rfl
    · go_wp2
      go_roundw
      case rel => exact ⟨1, by omega, by go_num, X, hb⟩
      case measure => simp only [intOf]; omega
    · go_wp2
      go_roundw
      case rel => exact ⟨2, by omega, by go_num, X, hb⟩
      case measure => simp only [intOf]; omega
    · go_wp2
      go_roundw
      case rel => exact ⟨3, by omega, by go_num, X, hb⟩
      case measure => simp only [intOf]; omega
    · go_wp2
      go_roundw
      case rel => exact ⟨4, by omega, by go_num, X, hb⟩
      case measure => simp only [intOf]; omega
    · go_wp2
      go_ret
      exact ⟨rfl, hb⟩
inductive Good : Ob → Prop
  | one : Good (numO [49] [49])
  | nil : Good nilO
  | txt : Good (txtO [97])
  | cons {a d : Ob} (ha : Good a) (hd : Good d) : Good (consO a d)
set_option maxHeartbeats 2000000 in
set_option maxRecDepth 100000 in
theorem formed_good (ok : Nat → Prop) : ∀ (N : Nat) (o : Ob), o.size ≤ N → Good o → ∀ (A : Option Addr) (n c : Nat) (w : World), Tab w → Rd ok w (.slice A n c) (.row (o.pair.map Ob.enc)) →
    Calls Tryz.prog 84 #[objV o (.slice A n c)] w (RetBel (.bool true) w) := by
  intro N
  induction N with
  | zero => intro o h; have := Ob.size_pos o; omega
  | succ N ih =>
    intro o hN hG A n c w ht hP
    go_enter Tryz.func84, Tryz.ntmps84
    go_wp2
    go_loopg [2] o.size (fun gx lv wr => ∃ (x : Ob) (A2 : Option Addr) (n2 c2 : Nat), lv = .bool false ∧ Hid (BlkIs wr w.heap.size 31 (obCells x (.slice A2 n2 c2))) ∧ Rd ok w (.slice A2 n2 c2) (.row (x.pair.map Ob.enc)) ∧ x.size ≤ N + 1 ∧ Good x ∧ x.size ≤ gx ∧ Below w.heap.size w wr)
    case atStart => exact ⟨o, A, n, c, rfl, Lib.hid (BlkIs.new w _ _), hP, hN, hG, Nat.le_refl _, box _ _⟩
    case round =>
      obtain ⟨x, A2, n2, c2, rfl, X, hr, hxN, hg, hgx, hb⟩ := hrel
      have hlen := hr.len
      rw [List.length_map] at hlen
      obtain ⟨x0, x1, x2, x3, x4, x5, x6, xl⟩ := X.out.seven
      obtain ⟨xf0, xf1, xf2, xf3, xf4, xf5, xf6⟩ := X.out.frozen7
      cases hg with
      | one =>
        obtain rfl : n2 = 0 := hlen.symm
        go_wp2_with fail
        refine (bare_num [49] [49] A2 0 c2 _).mono ?_
        rintro e w1 ⟨rfl, hb1⟩
        have X1 := Lib.hid (X.out.below hb1)
        clear x0 xf0 x1 xf1 x2 xf2 x3 xf3 x4 xf4 x5 xf5 x6 xf6
        obtain ⟨y0, y1, y2, y3, y4, y5, y6, yl⟩ := X1.out.seven
        go_wp2_with fail
        refine (lowest_one _ (ht.below (then_ hb hb1))).mono ?_
        rintro e w2 ⟨rfl, hb2⟩
        go_wp2
        go_ret
        exact ⟨rfl, then_ (then_ hb hb1) hb2⟩
      | nil =>
        obtain rfl : n2 = 0 := hlen.symm
        go_wp2_with fail
        refine (bare_sym lispB nilB A2 0 c2 _).mono ?_
        rintro e w1 ⟨rfl, hb1⟩
        have X1 := Lib.hid (X.out.below hb1)
        clear x0 xf0 x1 xf1 x2 xf2 x3 xf3 x4 xf4 x5 xf5 x6 xf6
        obtain ⟨y0, y1, y2, y3, y4, y5, y6, yl⟩ := X1.out.seven
        go_wp2_with fail
        refine (symbol_nil _).mono ?_
        rintro e w2 ⟨rfl, hb2⟩
        go_wp2
        go_ret
        exact ⟨rfl, then_ (then_ hb hb1) hb2⟩
      | txt =>
        obtain rfl : n2 = 0 := hlen.symm
        go_wp2_with fail
        refine (bare_txt [97] A2 0 c2 _).mono ?_
        rintro e w1 ⟨rfl, hb1⟩
        have X1 := Lib.hid (X.out.below hb1)
        clear x0 xf0 x1 xf1 x2 xf2 x3 xf3 x4 xf4 x5 xf5 x6 xf6
        obtain ⟨y0, y1, y2, y3, y4, y5, y6, yl⟩ := X1.out.seven
        go_wp2
        go_ret
        exact ⟨rfl, then_ hb hb1⟩
      | cons ga gd =>
        rename_i a d
        obtain rfl : n2 = 2 := hlen.symm
        have hsa := Ob.size_pair (o := consO a d) (x := a) (by simp)
        have hsd := Ob.size_pair (o := consO a d) (x := d) (by simp)
        clear hlen
        go_wp2_with fail
        refine (bare_cons a d A2 2 c2 _).mono ?_
        rintro e w1 ⟨rfl, hb1⟩
        have b1 := then_ hb hb1
        have X1 := Lib.hid (X.out.below hb1)
        clear x0 xf0 x1 xf1 x2 xf2 x3 xf3 x4 xf4 x5 xf5 x6 xf6
        obtain ⟨y0, y1, y2, y3, y4, y5, y6, yl⟩ := X1.out.seven
        obtain ⟨b, q, _, A3, n3, c3', rfl, hbl, _, a0, a1, a2, a3, a4, a5, a6, ha⟩ := hr.objs b1 (i := 0) (by omega)
        simp only [List.getElem_cons_zero, Nat.zero_mul, Nat.add_zero] at a0 a1 a2 a3 a4 a5 a6 ha
        have hbl' := Nat.lt_of_lt_of_le hbl b1.size
        go_wp2_with fail
        refine (ih a (by omega) ga A3 n3 c3' _ (ht.below b1) (ha.under b1)).mono ?_
        rintro e w2 ⟨rfl, hb2⟩
        have b2 := then_ b1 hb2
        have X2 := Lib.hid (X1.out.below hb2)
        clear y0 y1 y2 y3 y4 y5 y6 a0 a1 a2 a3 a4 a5 a6
        obtain ⟨z0, z1, z2, z3, z4, z5, z6, zl⟩ := X2.out.seven
        obtain ⟨zf0, zf1, zf2, zf3, zf4, zf5, zf6⟩ := X2.out.frozen7
        obtain ⟨b', q', _, A4, n4, c4', eA, _, _, d0, d1, d2, d3, d4, d5, d6, hd⟩ := hr.objs b2 (i := 1) (by omega)
        injection eA with eA
        injection eA with eb eq
        subst eb eq
        simp only [List.getElem_cons_zero, List.getElem_cons_succ, Nat.one_mul] at d0 d1 d2 d3 d4 d5 d6 hd
        have hbl2 := Nat.lt_of_lt_of_le hbl b2.size
        go_wp2
        go_roundg d.size
        case measure => omega
        case rel => exact ⟨d, A4, n4, c4', rfl, Lib.hid X2.out.put7, hd, by omega, gd, Nat.le_refl _, set7 b2 (Nat.le_refl _) _ _ _ _ _ _ _⟩
set_option maxHeartbeats 400000 in
theorem valid_good (ok : Nat → Prop) (o : Ob) (hG : Good o) (hn : o.nodes ≤ 3000) (A : Option Addr) (n c : Nat) (w : World) (ht : Tab w) (hP : Rd ok w (.slice A n c) (.row (o.pair.map Ob.enc))) :
    Calls Tryz.prog 46 #[objV o (.slice A n c)] w (RetBel (.bool true) w) := by
  have HN : Hid (∀ w' : World, Below w.heap.size w w' → Calls Tryz.prog 83 #[objV o (.slice A n c)] w' (RetBel (.int .i64 (o.nodes : Int)) w')) := fun w' hb => by
    have := oNodes_any ok o A n c w' (hP.under hb)
    rwa [nodesP, if_pos (by omega)] at this
  have HF : Hid (∀ w' : World, Below w.heap.size w w' → Calls Tryz.prog 84 #[objV o (.slice A n c)] w' (RetBel (.bool true) w')) := fun w' hb => formed_good ok o.size o (Nat.le_refl _) hG A n c w' (ht.below hb) (hP.under hb)
  generalize o.nodes = k at *
  go_enter Tryz.func46, Tryz.ntmps46
  go_wp2_with fail
  refine (HN.out _ (box _ _)).mono ?_
  rintro e w1 ⟨rfl, hb1⟩
  have X1 := Lib.hid (BlkIs.via hb1)
  obtain ⟨y0, y1, y2, y3, y4, y5, y6, yl⟩ := X1.out.seven
  have hk : (k : Int) ≤ 3000 := by omega
  go_wp2_with fail
  refine (HF.out _ (via hb1)).mono ?_
  rintro e w2 ⟨rfl, hb2⟩
  go_wp2
  go_ret
  exact ⟨rfl, then_ (via hb1) hb2⟩
end Go.Proofs.YtgphkgmhcmffnaaGreatDoor
