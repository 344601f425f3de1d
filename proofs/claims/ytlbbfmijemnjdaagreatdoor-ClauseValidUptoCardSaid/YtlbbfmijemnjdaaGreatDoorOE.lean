/- lispproverref1.text: the decimal of a sign and digits. -/
import Derived.Test.YtlbbfmijemnjdaaGreatDoorOD
import Derived.Laws.BytesArg
import Derived.IntWalk
import Derived.Deep.QuietTactic
import Derived.BigQuiet
import Derived.Deep.DeepCutAuto
import Derived.Test.YtlbbfmijemnjdaaGreatDoorOC
import Derived.Deep.LoopGhost
import Derived.Test.YtlbbfmijemnjdaaGreatDoorOB
import Derived.Deep.RegionHeld3
namespace Go.Proofs.YtlbbfmijemnjdaaGreatDoor
open Go.RowKit

theorem Sl.str {P : Program} {w : World} {A : Option Addr} {n c : Nat} {l : List Nat} (h : Sl w .u8 A n c l) (hn : 0 < n) (src e dst : TypeId) (hs : P.underlying src = some (.slice e)) (he : P.underlying e = some (.int .u8)) (hd : P.underlying dst = some .string) :
    (convert src dst (.slice A n c)).run P w = .ok (.string ⟨(l.map UInt8.ofNat).toArray⟩) w := by
  obtain ⟨b, o, rfl, _, hc⟩ := h.cells hn
  have := run_convert_bytes_arg (P := P) w src e hs he b o n c (l.map fun (x : Nat) => (x : Int)) (by rw [List.length_map, h.len]) (fun i hi => by
    rw [hc i hi, List.getD_eq_getElem?_getD, List.getD_eq_getElem?_getD, List.getElem?_map, List.getElem?_eq_getElem (by rw [h.len]; exact hi)]; rfl) dst hd
  rw [this]
  simp [strOfNums]

theorem text_bytes (ng : Bool) {v : Nat} (hv : v ≠ 0) : ((if ng then [45] else []) ++ ((Dec.limbs 10 v).drop 0).reverse.map (fun d => 48 + d)).map UInt8.ofNat = numStr ng v := by
  unfold numStr
  rw [itoa_sign ng hv, List.map_append, List.drop_zero, List.map_map, ← Dec.limbs10_decDigits hv]
  cases ng <;> rfl
theorem drop_rev {l : List Nat} {j : Nat} (h0 : 0 < j) (hj : j ≤ l.length) : ((l.drop (j - 1)).reverse.map fun d => 48 + d) = ((l.drop j).reverse.map fun d => 48 + d) ++ [48 + l.getD (j - 1) 0] := by
  obtain ⟨m, rfl⟩ : ∃ m, j = m + 1 := ⟨j - 1, by omega⟩
  rw [Nat.add_sub_cancel, List.drop_eq_getElem_cons (by omega), List.reverse_cons, List.map_append, List.getD_eq_getElem?_getD, List.getElem?_eq_getElem (by omega)]
  rfl

set_option maxHeartbeats 1000000 in
set_option maxRecDepth 100000 in
theorem refText_any (ng : Bool) (A : Option Addr) (n c : Nat) (x : List Nat) (w : World) (hx : Sl w .i64 A n c x) (hn : n ≤ 100000000) (hs : Dec.Small 10 x) :
    Calls Tryz.prog 93 #[.bool ng, .slice A n c] w (RetStr (numStr ng (Dec.lval 10 x)) w) := by
  have HT := Lib.hid (refTrim_any A n c x w hx (by omega))
  have hsl := hx.trimmed (B := 10) (by omega) hs
  have htl := trimZ_length_le x
  have hxl := hx.len
  have HL := Lib.hid hsl.len
  generalize (Dec.trimZ x).length = m at HT hsl htl HL
  generalize Dec.lval 10 x = v at hsl HL
  have hm : m ≤ 100000000 := by omega
  clear htl hxl
  by_cases h0 : v = 0
  · subst h0
    have hm0 : m = 0 := by rw [← HL.out]; rfl
    subst hm0
    rw [numStr_zero]
    go_enter Tryz.func93, Tryz.ntmps93
    go_wp2_with fail
    refine HT.out.mono ?_
    rintro e w' ⟨rfl, rfl⟩
    go_wp2
    go_ret
    exact ⟨rfl, Below.refl _ _⟩
  · have hmp : 0 < m := by
      rcases Nat.eq_zero_or_pos m with e | e
      · exact absurd ((Dec.limbs_eq_nil (B := 10) (by omega)).1 (List.eq_nil_of_length_eq_zero (by rw [HL.out]; exact e))) h0
      · exact e
    have hm0 : ((m : Int) == 0) = false := by rw [beq_eq_false_iff_ne]; omega
    have HF := Lib.hid h0
    clear h0
    have hsm := Dec.limbs_small (B := 10) (by omega) v
    cases ng with
    | true =>
      have HG : Hid (([45] ++ ((Dec.limbs 10 v).drop 0).reverse.map (fun d => 48 + d)).map UInt8.ofNat = numStr true v) := text_bytes true HF.out
      go_enter Tryz.func93, Tryz.ntmps93
      go_wp2_with fail
      refine HT.out.mono ?_
      rintro e w' ⟨rfl, rfl⟩
      go_wp2_with (at_builtin; refine wpList_app (w0 := w) rfl _ _ _ rfl 5 .u8 1 Tryz.underlying136 infoByte (by omega) _ _ _ [] rfl (Own.nil _ _ _ _) _ 45 (by omega) rfl (by omega) (Below.refl _ _) ?_; intro A1 c1 w1 hown1 hb1 _ _ _)
      go_loopw [5, 6] (fun out ix wr => ∃ (j c2 : Nat) (A2 : Option Addr), j ≤ m ∧ ix = .int .i64 ((j : Int) - 1) ∧ out = .slice A2 (1 + (m - j)) c2 ∧ Own wr w.heap.size 5 .u8 A2 (1 + (m - j)) c2 ([45] ++ ((Dec.limbs 10 v).drop j).reverse.map (fun d => 48 + d)) ∧ Below w.heap.size w wr) (fun _ ix _ => (intOf ix + 1).toNat)
      case atStart => exact ⟨m, c1, A1, Nat.le_refl _, rfl, by rw [Nat.sub_self], by rw [Nat.sub_self, List.drop_of_length_le (by rw [HL.out]; exact Nat.le_refl _)]; exact hown1, hb1⟩
      case round =>
        obtain ⟨j, c2, A2, hj, rfl, rfl, hown, hb⟩ := hrel
        by_cases hj0 : 0 < j
        · obtain ⟨b, o, rfl, _, hcx⟩ := (hsl.below hb).cells (by omega)
          have hcu := hcx (j - 1) (by omega)
          clear hcx
          have hu := getD_lt hsm (by omega) (j - 1)
          have HR := Lib.hid (drop_rev (l := Dec.limbs 10 v) hj0 (by rw [HL.out]; exact hj))
          generalize (Dec.limbs 10 v).getD (j - 1) 0 = u at hcu hu HR
          have hi1 : (0 : Int) ≤ (j : Int) - 1 := by omega
          have hi2 : (j : Int) - 1 < m := by omega
          have hi3 : ((j : Int) - 1).toNat = j - 1 := by omega
          have hw8 : IntKind.u8.wrap (48 + (u : Int)) = 48 + u := by rw [IntKind.wrap_u8]; omega
          go_wp2_with (at_builtin; refine wpList_app (w0 := w) rfl _ _ _ rfl 5 .u8 1 Tryz.underlying136 infoByte (by omega) _ _ _ _ rfl hown _ (48 + u) (by omega) rfl (by omega) hb ?_; intro A3 c3 w2 hown2 hb2 _ _ _)
          go_roundw
          case rel => exact ⟨j - 1, c3, A3, by omega, by go_num, by congr 1; omega, by rw [HR.out, ← List.append_assoc, show 1 + (m - (j - 1)) = 1 + (m - j) + 1 by omega]; exact hown2, hb2⟩
          case measure => simp only [intOf]; omega
        · have hjz : j = 0 := by omega
          subst hjz
          have hst := hown.sl.str (P := Tryz.prog) (by omega) 136 5 9 Tryz.underlying136 Tryz.underlying5 Tryz.underlying9
          rw [HG.out] at hst
          obtain ⟨S, hS⟩ : ∃ S : ByteArray, S = ⟨(numStr true v).toArray⟩ := ⟨_, rfl⟩
          rw [← hS] at hst
          have HS := Lib.hid hS
          clear hS
          simp only [Nat.sub_zero] at hst
          go_wp2
          go_ret
          exact ⟨by rw [← HS.out]; rfl, hb⟩
    | false =>
      have HG : Hid (([] ++ ((Dec.limbs 10 v).drop 0).reverse.map (fun d => 48 + d)).map UInt8.ofNat = numStr false v) := text_bytes false HF.out
      go_enter Tryz.func93, Tryz.ntmps93
      go_wp2_with fail
      refine HT.out.mono ?_
      rintro e w' ⟨rfl, rfl⟩
      go_wp2
      go_loopw [5, 6] (fun out ix wr => ∃ (j c2 : Nat) (A2 : Option Addr), j ≤ m ∧ ix = .int .i64 ((j : Int) - 1) ∧ out = .slice A2 (m - j) c2 ∧ Own wr w.heap.size 5 .u8 A2 (m - j) c2 ([] ++ ((Dec.limbs 10 v).drop j).reverse.map (fun d => 48 + d)) ∧ Below w.heap.size w wr) (fun _ ix _ => (intOf ix + 1).toNat)
      case atStart => exact ⟨m, 0, none, Nat.le_refl _, rfl, by rw [Nat.sub_self], by rw [Nat.sub_self, List.drop_of_length_le (by rw [HL.out]; exact Nat.le_refl _)]; exact Own.nil _ _ _ _, Below.refl _ _⟩
      case round =>
        obtain ⟨j, c2, A2, hj, rfl, rfl, hown, hb⟩ := hrel
        by_cases hj0 : 0 < j
        · obtain ⟨b, o, rfl, _, hcx⟩ := (hsl.below hb).cells (by omega)
          have hcu := hcx (j - 1) (by omega)
          clear hcx
          have hu := getD_lt hsm (by omega) (j - 1)
          have HR := Lib.hid (drop_rev (l := Dec.limbs 10 v) hj0 (by rw [HL.out]; exact hj))
          generalize (Dec.limbs 10 v).getD (j - 1) 0 = u at hcu hu HR
          have hi1 : (0 : Int) ≤ (j : Int) - 1 := by omega
          have hi2 : (j : Int) - 1 < m := by omega
          have hi3 : ((j : Int) - 1).toNat = j - 1 := by omega
          have hw8 : IntKind.u8.wrap (48 + (u : Int)) = 48 + u := by rw [IntKind.wrap_u8]; omega
          go_wp2_with (at_builtin; refine wpList_app (w0 := w) rfl _ _ _ rfl 5 .u8 1 Tryz.underlying136 infoByte (by omega) _ _ _ _ rfl hown _ (48 + u) (by omega) rfl (by omega) hb ?_; intro A3 c3 w2 hown2 hb2 _ _ _)
          go_roundw
          case rel => exact ⟨j - 1, c3, A3, by omega, by go_num, by congr 1; omega, by rw [HR.out, ← List.append_assoc, show m - (j - 1) = m - j + 1 by omega]; exact hown2, hb2⟩
          case measure => simp only [intOf]; omega
        · have hjz : j = 0 := by omega
          subst hjz
          have hst := hown.sl.str (P := Tryz.prog) (by omega) 136 5 9 Tryz.underlying136 Tryz.underlying5 Tryz.underlying9
          rw [HG.out] at hst
          obtain ⟨S, hS⟩ : ∃ S : ByteArray, S = ⟨(numStr false v).toArray⟩ := ⟨_, rfl⟩
          rw [← hS] at hst
          have HS := Lib.hid hS
          clear hS
          simp only [Nat.sub_zero] at hst
          go_wp2
          go_ret
          exact ⟨by rw [← HS.out]; rfl, hb⟩
end Go.Proofs.YtlbbfmijemnjdaaGreatDoor
/- lispproverref1.times: the digits of the product. -/
namespace Go.Proofs.YtlbbfmijemnjdaaGreatDoor
open Go.RowKit

end Go.Proofs.YtlbbfmijemnjdaaGreatDoor
/- lispproverref1.over: quotient and remainder of two absolute values. -/
namespace Go.Proofs.YtlbbfmijemnjdaaGreatDoor
open Go.RowKit

theorem lval_cons10 (u R : Nat) : Dec.lval 10 ([u] ++ Dec.limbs 10 R) = u + 10 * R := by
  show u + 10 * Dec.lval 10 (Dec.limbs 10 R) = _
  rw [Dec.lval_limbs (by omega)]
theorem small_cons10 {u : Nat} (hu : u < 10) (R : Nat) : Dec.Small 10 ([u] ++ Dec.limbs 10 R) := Dec.Small.cons hu (Dec.limbs_small (by omega) R)
theorem div_step10 {a b R u j : Nat} {q : List Nat} (hj : 0 < j) (hja : j ≤ (Dec.limbs 10 a).length) (hjq : j ≤ q.length) (hu : (Dec.limbs 10 a).getD (j - 1) 0 = u)
    (h : Dec.lval 10 ((Dec.limbs 10 a).drop j) = Dec.lval 10 (q.drop j) * b + R) :
    Dec.lval 10 ((Dec.limbs 10 a).drop (j - 1)) = Dec.lval 10 ((q.set (j - 1) ((u + 10 * R) / b)).drop (j - 1)) * b + (u + 10 * R) % b := by
  obtain ⟨m, rfl⟩ : ∃ m, j = m + 1 := ⟨j - 1, by omega⟩
  rw [Nat.add_sub_cancel] at hu ⊢
  rw [set_drop _ _ _ (by omega), Dec.lval_drop _ _ m (by omega), hu, Dec.lval]
  exact Dec.div_round h
def RetOver (a b : Nat) (w : World) (e : Ending) (w' : World) : Prop :=
  ∃ A n c A' n' c', e = .returned (.tuple #[.slice A n c, .slice A' n' c']) ∧ Sl w' .i64 A n c (Dec.limbs 10 (a / b)) ∧ Sl w' .i64 A' n' c' (Dec.limbs 10 (a % b)) ∧ Below w.heap.size w w'

theorem set_zero {q : List Nat} {i : Nat} (hz : q.getD i 0 = 0) : q.set i 0 = q := by
  apply List.ext_getElem?
  intro k
  by_cases h : i = k
  · subst h
    by_cases hi : i < q.length
    · rw [List.getElem?_set_self hi, List.getElem?_eq_getElem hi]
      rw [List.getD_eq_getElem?_getD, List.getElem?_eq_getElem hi] at hz
      simpa using hz.symm
    · rw [List.getElem?_eq_none (by simpa using hi), List.getElem?_eq_none (by omega)]
  · rw [List.getElem?_set_ne h]
theorem below_apps1 {wr w2 : World} {o : Obj} (hblk : ∀ g, g < (wr.alloc o).heap.size → (some ⟨wr.heap.size, 0, none⟩ : Option Addr) ≠ some ⟨g, 0, none⟩ → w2.heap[g]? = (wr.alloc o).heap[g]?) (hsz : (wr.alloc o).heap.size ≤ w2.heap.size)
    (hos : w2.os = (wr.alloc o).os) (htp : w2.tape = (wr.alloc o).tape) (hou : w2.output = (wr.alloc o).output) : Below wr.heap.size wr w2 :=
  ⟨hos, htp, hou, by have : (wr.alloc o).heap.size = wr.heap.size + 1 := by simp
                     omega, fun g hg => (hblk g (by simp; omega) (by intro e; injection e with e; injection e with e; omega)).trans (Below.heap_alloc wr _ g hg)⟩
theorem over_step {R' R2 b t : Nat} (hb0 : 0 < b) (h : R2 + t * b = R') (hlt : R2 < b) : t = R' / b ∧ R2 = R' % b := by
  subst h
  exact ⟨by rw [Nat.add_mul_div_right _ _ hb0, Nat.div_eq_of_lt hlt, Nat.zero_add], by rw [Nat.add_mul_mod_self_right, Nat.mod_eq_of_lt hlt]⟩
theorem set_set (q : List Nat) (i x y : Nat) : (q.set i x).set i y = q.set i y := List.set_set x
theorem getD_set_self {q : List Nat} {i x : Nat} (h : i < q.length) : (q.set i x).getD i 0 = x := by
  rw [List.getD_eq_getElem?_getD, List.getElem?_set_self h]; rfl

set_option maxHeartbeats 2000000 in
set_option maxRecDepth 100000 in
theorem refOver_any (A A' : Option Addr) (n n' c c' a b : Nat) (w : World) (hx : Sl w .i64 A n c (Dec.limbs 10 a)) (hy : Sl w .i64 A' n' c' (Dec.limbs 10 b)) (hn : n ≤ 2500000) (hn' : n' ≤ 2500000) (hb0 : 0 < b) :
    Calls Tryz.prog 92 #[.slice A n c, .slice A' n' c'] w (RetOver a b w) := by
  have HLx := Lib.hid hx.len
  have HLy := Lib.hid hy.len
  go_enter Tryz.func92, Tryz.ntmps92
  go_wp2_with (at_make; refine wpList_mk (w0 := w) rfl _ _ _ rfl 3 .i64 8 Tryz.underlying102 infoInt (by omega) _ _ _ _ n rfl rfl (by omega) (by omega) (by omega) (Below.refl _ _) ?_; intro w1 hown1 hb1 hbW1 hsz1)
  go_loopw [7, 8] (fun rv ix wr => ∃ (j R nr cr : Nat) (Ar : Option Addr) (q : List Nat), j ≤ n ∧ ix = .int .i64 ((j : Int) - 1) ∧ rv = .slice Ar nr cr ∧ Sl wr .i64 Ar nr cr (Dec.limbs 10 R) ∧ Hid (∀ b o, Ar = some ⟨b, o, none⟩ → b ≠ w.heap.size) ∧ R < b ∧ Own wr w.heap.size 3 .i64 (some ⟨w.heap.size, 0, none⟩) n n q ∧ Dec.Small 10 q ∧ Hid (∀ i, i < j → q.getD i 0 = 0) ∧ Hid (Dec.lval 10 ((Dec.limbs 10 a).drop j) = Dec.lval 10 (q.drop j) * b + R) ∧ Below w.heap.size w wr) (fun _ ix _ => (intOf ix + 1).toNat)
  case atStart =>
    refine ⟨n, 0, 0, 0, none, List.replicate n 0, Nat.le_refl _, rfl, rfl, Sl.nil _ _ _ _, Lib.hid (fun _ _ e => by cases e), hb0, hown1, small_replicate _ _ (by omega), Lib.hid (fun i _ => getD_replicate n i), Lib.hid ?_, hb1⟩
    rw [List.drop_of_length_le (by rw [HLx.out]; exact Nat.le_refl _), List.drop_of_length_le (by simp)]; simp [Dec.lval]
  case round =>
    obtain ⟨j, R, nr, cr, Ar, q, hj, rfl, rfl, hsr, HA, hR, hown, hsq, HZ, HV, hb⟩ := hrel
    obtain ⟨wo, rfl⟩ : ∃ wo : World, wo = wr := ⟨_, rfl⟩
    have HLr := Lib.hid hsr.len
    have hnr : nr ≤ n' := by
      rw [← HLr.out, ← HLy.out]; exact Dec.limbs_length_mono (by omega) (by omega)
    by_cases hj0 : 0 < j
    · obtain ⟨bx, ox, rfl, hbx, hcx⟩ := (hx.below hb).cells (by omega)
      have hcu := hcx (j - 1) (by omega)
      clear hcx
      have hu := getD_lt (l := Dec.limbs 10 a) (Dec.limbs_small (by omega) a) (by omega) (j - 1)
      generalize hu0 : (Dec.limbs 10 a).getD (j - 1) 0 = u at hcu hu
      have HU0 := Lib.hid hu0
      clear hu0
      have HQL := Lib.hid hown.len
      have HST := Lib.hid (div_step10 (b := b) hj0 (by rw [HLx.out]; exact hj) (by rw [HQL.out]; exact hj) HU0.out HV.out)
      have hdg : (u + 10 * R) / b < 10 := Dec.div_digit hu hR
      obtain ⟨R', hR'⟩ : ∃ R', R' = u + 10 * R := ⟨_, rfl⟩
      rw [← hR'] at HST hdg
      have HR' := Lib.hid hR'
      clear hR'
      have hi1 : (0 : Int) ≤ (j : Int) - 1 := by omega
      have hi2 : (j : Int) - 1 < n := by omega
      have hi3 : ((j : Int) - 1).toNat = j - 1 := by omega
      have hoW : Own (wo.alloc (.cells #[.int .i64 (u : Int)] 3)) wo.heap.size 3 .i64 (some ⟨wo.heap.size, 0, none⟩) 1 1 [u] := ⟨⟨rfl, .inr ⟨wo.heap.size, 1, #[.int .i64 (u : Int)], rfl, Nat.le_refl _, heap_alloc_new wo _, Nat.le_refl _, by unfold maxLen; omega, rfl, rfl⟩⟩⟩
      have hsW : Sl (wo.alloc (.cells #[.int .i64 (u : Int)] 3)) .i64 Ar nr cr (Dec.limbs 10 R) := hsr.alloc _
      go_wp2_with (at_builtin; refine wpList_apps rfl _ _ _ rfl wo.heap.size 3 .i64 8 Tryz.underlying102 infoInt (by omega) _ _ _ [u] rfl hoW _ _ _ _ rfl hsW (by omega) (by simp) ?_; intro A2 cc2 w2 hown2 hblk2 hsz2 hos2 htp2 hou2)
      have hbw2 := below_apps1 hblk2 hsz2 hos2 htp2 hou2
      clear hblk2 hsz2 hos2 htp2 hou2
      refine (refTrim_any A2 (1 + nr) cc2 _ w2 hown2.sl (by omega)).mono ?_
      rintro e w3 ⟨rfl, rfl⟩
      have hsl2 := hown2.sl.trimmed (B := 10) (by omega) (small_cons10 hu R)
      rw [lval_cons10, ← HR'.out] at hsl2
      have hfr := hown2.fresh
      have hq1 := (hown.lt rfl).2
      have htl := trimZ_length_le ([u] ++ Dec.limbs 10 R)
      rw [List.length_append, HLr.out, List.length_singleton] at htl
      generalize (Dec.trimZ ([u] ++ Dec.limbs 10 R)).length = n2 at hsl2 htl
      have hw2 := hb.trans (hbw2.mono hb.size)
      have hownx := hown.below hbw2
      have HQ0 := Lib.hid (set_zero (HZ.out (j - 1) (by omega)))
      rw [← HQ0.out] at hownx
      have HA2 : Hid (∀ b o, A2 = some ⟨b, o, none⟩ → b ≠ w.heap.size) := fun b o e => by have := hfr b o e; omega
      clear hfr hown2 hoW hsW HA hsr hcu
      go_wp2_with fail
      go_loopg [7] R' (fun kx rv wr => ∃ (t R2 n3 c3 : Nat) (A3 : Option Addr), t ≤ R' / b ∧ Hid (R2 + t * b = R') ∧ rv = .slice A3 n3 c3 ∧ Sl wr .i64 A3 n3 c3 (Dec.limbs 10 R2) ∧ n3 ≤ n' + 1 ∧ Hid (∀ b o, A3 = some ⟨b, o, none⟩ → b ≠ w.heap.size) ∧ Own wr w.heap.size 3 .i64 (some ⟨w.heap.size, 0, none⟩) n n (q.set (j - 1) t) ∧ R2 ≤ kx ∧ Below w.heap.size w wr)
      case atStart => exact ⟨0, R', n2, cc2, A2, Nat.zero_le _, Lib.hid (by omega), rfl, hsl2, by omega, HA2, hownx, Nat.le_refl _, hw2⟩
      case round =>
        obtain ⟨t, R2, n3, c3, A3, ht, HT, rfl, hs3, hn3, HA3, hown3, hk3, hb3⟩ := hrel
        have HCm := Lib.hid (orderR_any 10 (by omega) A3 A' n3 n' c3 c' R2 b wr hs3 (hy.below hb3) (by omega) (by omega))
        by_cases hge : R2 < b
        · have HO := Lib.hid (ordI_lt hge)
          have HE := Lib.hid (over_step hb0 HT.out hge)
          go_wp2_with (go_at_call 108; refine HCm.out.mono ?_; rintro e w2 ⟨rfl, qq, rfl⟩; rw [HO.out])
          go_roundw
          case rel =>
            refine ⟨j - 1, R2, n3, c3, A3, q.set (j - 1) t, by omega, by go_num, rfl, hs3.drew qq, HA3, hge, hown3.drewN qq, hsq.set (by omega), Lib.hid (fun i hi => by rw [getD_set_ne _ _ _ _ (by omega)]; exact HZ.out i (by omega)), ?_, below_drewN hb3 qq⟩
            have h := HST.out
            rw [← HE.out.1, ← HE.out.2] at h
            exact Lib.hid h
          case measure => simp only [intOf]; omega
        · have hz : 0 ≤ ordI R2 b := by
            rcases Nat.lt_or_ge b R2 with h | h
            · rw [ordI_gt h]; omega
            · obtain rfl : R2 = b := by omega
              rw [ordI_eq]; omega
          have ht1 : t + 1 ≤ R' / b := by
            rw [Nat.le_div_iff_mul_le hb0, ← HT.out, Nat.add_mul]; omega
          have hln : n' ≤ n3 := by rw [← HLy.out, ← hs3.len]; exact Dec.limbs_length_mono (by omega) (by omega)
          have HM : Hid (∀ qq : Nat, Calls Tryz.prog 109 #[.slice A3 n3 c3, .slice A' n' c'] (wr.drewN qq) (RetSl .i64 (Dec.limbs 10 (R2 - b)) (wr.drewN qq))) := fun qq => by
            have := refMinus_any A3 A' n3 n' c3 c' _ _ (wr.drewN qq) (hs3.drew qq) ((hy.below hb3).drew qq) (by omega) hln (Dec.limbs_small (by omega) _) (Dec.limbs_small (by omega) _) (by rw [Dec.lval_limbs (by omega), Dec.lval_limbs (by omega)]; omega)
            rwa [Dec.lval_limbs (by omega), Dec.lval_limbs (by omega)] at this
          have hll : (Dec.limbs 10 (R2 - b)).length ≤ n3 := by rw [← hs3.len]; exact Dec.limbs_length_mono (by omega) (by omega)
          have HOr := Lib.hid hown3
          have hl3 := (hown3.lt rfl).2
          go_wp2_with (go_at_call 108; refine HCm.out.mono ?_; rintro e w2 ⟨rfl, qq, rfl⟩)
          refine (HM.out _).mono ?_
          rintro e w4 ⟨A4, n4, c4, rfl, hs4, hb4, hf4⟩
          have hn4 : n4 ≤ n3 := by rw [← hs4.len]; exact hll
          have hb4' := (below_drewN hb3 qq).trans (hb4.mono (below_drewN hb3 qq).size)
          have hown4 := (HOr.out.drewN qq).below hb4
          obtain ⟨hco, hfo, _, hgl⟩ := hown4.cellAt (i := j - 1) (by omega)
          rw [getD_set_self (by rw [HQL.out]; omega)] at hco
          have HA4 : Hid (∀ b o, A4 = some ⟨b, o, none⟩ → b ≠ w.heap.size) := fun b o e => by have h1 := hf4 b o e; have h2 : (wr.drewN qq).heap.size = wr.heap.size := rfl; omega
          clear hf4
          go_wp2
          go_roundg (R2 - b)
          case measure => omega
          case rel =>
            refine ⟨t + 1, R2 - b, n4, c4, A4, ht1, Lib.hid (by have := HT.out; rw [Nat.add_mul]; omega), rfl, hs4.far (p := ⟨w.heap.size, j - 1, none⟩) (fun b o e => HA4.out b o e) _, by omega, HA4, ?_, Nat.le_refl _, hb4'.setCell (p := ⟨w.heap.size, j - 1, none⟩) (Nat.le_refl _) _⟩
            exact hown4.setInt (y := t + 1) (by omega) (set_set _ _ _ _)
    · have hjz : j = 0 := by omega
      subst hjz
      have HQ : Hid (Dec.lval 10 q = a / b ∧ R = a % b) := by
        have h := HV.out
        rw [List.drop_zero, List.drop_zero, Dec.lval_limbs (by omega)] at h
        show _ ∧ _
        rw [h]
        exact ⟨by rw [Nat.add_comm, Nat.add_mul_div_right _ _ hb0, Nat.div_eq_of_lt hR, Nat.zero_add], by rw [Nat.add_comm, Nat.add_mul_mod_self_right, Nat.mod_eq_of_lt hR]⟩
      have hslq := hown.sl
      go_wp2_with fail
      refine (refTrim_any _ _ _ _ _ hslq (by omega)).mono ?_
      rintro e w3 ⟨rfl, rfl⟩
      go_wp2
      go_ret2
      refine ⟨_, _, _, _, _, _, rfl, ?_, ?_, hb⟩
      · have := hslq.trimmed (B := 10) (by omega) hsq
        rw [HQ.out.1] at this
        exact this
      · rw [← HQ.out.2]; exact hsr
end Go.Proofs.YtlbbfmijemnjdaaGreatDoor
/- lispproverref1.Compare, Negate, Add, Subtract, Multiply. -/
namespace Go.Proofs.YtlbbfmijemnjdaaGreatDoor
open Go.RowKit

theorem refDigW (l : List UInt8) (hl : l.length ≤ 2500000) (w : World) : Calls Tryz.prog 90 #[.string ⟨l.toArray⟩] w (RetDig (l.length + 1) (Dec.dval l) w) := refDigits_any l w hl

/-- text of the digits of a number -/
theorem refTextV (ng : Bool) (A : Option Addr) (n c v : Nat) (r : Int) (w : World) (hx : Sl w .i64 A n c (Dec.limbs 10 v)) (hn : n ≤ 100000000) (hv : (if ng then -(v : Int) else v) = r) :
    Calls Tryz.prog 93 #[.bool ng, .slice A n c] w (RetStr (Lib.itoa r) w) := by
  have := refText_any ng A n c _ w hx hn (Dec.limbs_small (by omega) v)
  rw [Dec.lval_limbs (by omega), numStr_eq hv] at this
  exact this

end Go.Proofs.YtlbbfmijemnjdaaGreatDoor
/- lispproverref1.Divide, Gcd, Reduce. -/
namespace Go.Proofs.YtlbbfmijemnjdaaGreatDoor
open Go.RowKit

theorem natAbs10 {x : Int} {n : Nat} (h : (Dec.limbs 10 x.natAbs).length = n) : n = 0 ↔ x = 0 := by
  subst h
  constructor
  · intro h
    have := (Dec.limbs_eq_nil (B := 10) (by omega)).1 (List.eq_nil_of_length_eq_zero h)
    omega
  · rintro rfl; rfl
theorem limbs10_pos {v n : Nat} (h : (Dec.limbs 10 v).length = n) (h0 : n ≠ 0) : 0 < v := by
  rcases Nat.eq_zero_or_pos v with e | e
  · subst e; rw [Dec.limbs_zero] at h; simp at h; omega
  · exact e
theorem length10_div {a b n : Nat} (h : (Dec.limbs 10 a).length = n) : (Dec.limbs 10 (a / b)).length ≤ n := by
  rw [← h]; exact Dec.limbs_length_mono (by omega) (Nat.div_le_self a b)
theorem length10_mod {a b n : Nat} (hb : 0 < b) (h : (Dec.limbs 10 b).length = n) : (Dec.limbs 10 (a % b)).length ≤ n := by
  rw [← h]; exact Dec.limbs_length_mono (by omega) (Nat.le_of_lt (Nat.mod_lt a hb))
theorem refTextN (ng : Bool) (A : Option Addr) (n c v : Nat) (l : List UInt8) (w : World) (hx : Sl w .i64 A n c (Dec.limbs 10 v)) (hn : n ≤ 100000000) (hv : numStr ng v = l) :
    Calls Tryz.prog 93 #[.bool ng, .slice A n c] w (RetStr l w) := by
  have := refText_any ng A n c _ w hx hn (Dec.limbs_small (by omega) v)
  rw [Dec.lval_limbs (by omega), hv] at this
  exact this

set_option maxHeartbeats 1000000 in
theorem refGcd_any (a b : List UInt8) (w : World) (ha : a.length ≤ 2400000) (hb : b.length ≤ 2400000) :
    Calls Tryz.prog 91 #[.string ⟨a.toArray⟩, .string ⟨b.toArray⟩] w (RetStr (Lib.itoa (Nat.gcd (Dec.dval a).natAbs (Dec.dval b).natAbs : Nat)) w) := by
  have HP1 : Hid (∀ w' : World, Calls Tryz.prog 90 #[.string ⟨a.toArray⟩] w' (RetDig (a.length + 1) (Dec.dval a) w')) := fun w' => refDigW a (by omega) w'
  have HP2 : Hid (∀ w' : World, Calls Tryz.prog 90 #[.string ⟨b.toArray⟩] w' (RetDig (b.length + 1) (Dec.dval b) w')) := fun w' => refDigW b (by omega) w'
  generalize Dec.dval a = x at *
  generalize Dec.dval b = y at *
  generalize hG : Nat.gcd x.natAbs y.natAbs = G
  have HG := Lib.hid hG
  clear hG
  obtain ⟨s, hsd⟩ : ∃ s, s = decide (x < 0) := ⟨_, rfl⟩
  have HSD := Lib.hid hsd
  clear hsd
  obtain ⟨s', hsd'⟩ : ∃ s', s' = decide (y < 0) := ⟨_, rfl⟩
  have HSD' := Lib.hid hsd'
  clear hsd'
  go_enter Tryz.func91, Tryz.ntmps91
  go_wp2_with fail
  refine (HP1.out _).mono ?_
  rintro e w1 ⟨A1, n1, c1, rfl, hs1, hn1, hb1⟩
  rw [← HSD.out]
  go_wp2_with fail
  refine (HP2.out _).mono ?_
  rintro e w2 ⟨A2, n2, c2, rfl, hs2, hn2, hb2⟩
  rw [← HSD'.out]
  have hbw2 := hb1.trans (hb2.mono hb1.size)
  go_wp2_with fail
  go_loopg [6, 8] y.natAbs (fun kx s5 s6 wr => ∃ (A B : Option Addr) (n c m d u v : Nat), s5 = .slice A n c ∧ s6 = .slice B m d ∧ Sl wr .i64 A n c (Dec.limbs 10 u) ∧ Sl wr .i64 B m d (Dec.limbs 10 v) ∧ n ≤ 2400001 ∧ m ≤ 2400001 ∧ v ≤ kx ∧ Hid (Nat.gcd u v = G) ∧ Below w.heap.size w wr)
  case atStart => exact ⟨A1, A2, n1, c1, n2, c2, _, _, rfl, rfl, hs1.below hb2, hs2, by omega, by omega, Nat.le_refl _, HG, hbw2⟩
  case round =>
    obtain ⟨A, B, n, c, m, d, u, v, rfl, rfl, hu, hv, hn, hm, hk, HGu, hb⟩ := hrel
    by_cases hm0 : 0 < m
    · have hv0 : 0 < v := limbs10_pos hv.len (by omega)
      have hlr := length10_mod (a := u) hv0 hv.len
      have hml := Nat.mod_lt u hv0
      have HGn : Hid (Nat.gcd v (u % v) = G) := by show _ = _; rw [← HGu.out, Nat.gcd_comm v, ← Nat.gcd_rec, Nat.gcd_comm]
      have HDv := Lib.hid (refOver_any A B n m c d u v wr hu hv (by omega) (by omega) hv0)
      go_wp2_with (go_at_call 92; refine HDv.out.mono ?_; rintro e w3 ⟨A3, n3, c3, A4, n4, c4, rfl, hs3, hs4, hb3⟩; have hn4 : n4 ≤ m := (by rw [← hs4.len]; exact hlr))
      go_roundg (u % v)
      case measure => omega
      case rel => exact ⟨B, A4, m, d, n4, c4, v, u % v, rfl, rfl, hv.below hb3, hs4, hm, by omega, Nat.le_refl _, HGn, hb.trans (hb3.mono hb.size)⟩
    · have hv0 : v = 0 := (Dec.limbs_eq_nil (B := 10) (by omega)).1 (List.eq_nil_of_length_eq_zero (by rw [hv.len]; omega))
      subst hv0
      have HE : Hid (numStr false u = Lib.itoa (G : Int)) := by show _ = _; rw [← HGu.out, Nat.gcd_zero_right]; rfl
      go_wp2_with fail
      refine (refTextN false A n c u _ _ hu (by omega) HE.out).mono ?_
      rintro e w3 ⟨rfl, hb3⟩
      go_wp2
      go_ret
      exact ⟨rfl, hb.trans (hb3.mono hb.size)⟩

/-! ### Reduce -/
theorem rd_num {x y : Int} {z : Bool} (hy : y ≠ 0) (hz : (!(decide (x < 0) == decide (y < 0))) = z) : (if z then -((x.natAbs / Nat.gcd x.natAbs y.natAbs : Nat) : Int) else ((x.natAbs / Nat.gcd x.natAbs y.natAbs : Nat) : Int)) = rdN x y := by
  have hg : 0 < Nat.gcd x.natAbs y.natAbs := Nat.gcd_pos_of_pos_right _ (by omega)
  have hd := Nat.gcd_dvd_left x.natAbs y.natAbs
  unfold rdN
  rw [if_neg hy]
  generalize Nat.gcd x.natAbs y.natAbs = g at *
  obtain ⟨k, hk⟩ := hd
  rw [hk, Nat.mul_div_cancel_left _ hg]
  have hgk : ((g * k : Nat) : Int) = (g : Int) * k := Int.natCast_mul _ _
  by_cases h1 : x < 0 <;> by_cases h2 : y < 0
  · have e : rdX x y = k * g + 0 := by unfold rdX; rw [if_pos h2, Int.mul_comm, ← hgk]; omega
    rw [(qd_of_pos (by omega) e (by omega) (by omega)).1]
    subst hz; simp [h1, h2]
  · have e : rdX x y = (-(k : Int)) * g + 0 := by unfold rdX; rw [if_neg h2, Int.neg_mul, Int.mul_comm, ← hgk]; omega
    rw [(qd_of_pos (by omega) e (by omega) (by omega)).1]
    subst hz; simp [h1, h2]
  · have e : rdX x y = (-(k : Int)) * g + 0 := by unfold rdX; rw [if_pos h2, Int.neg_mul, Int.mul_comm, ← hgk]; omega
    rw [(qd_of_pos (by omega) e (by omega) (by omega)).1]
    subst hz; simp [h1, h2]
  · have e : rdX x y = k * g + 0 := by unfold rdX; rw [if_neg h2, Int.mul_comm, ← hgk]; omega
    rw [(qd_of_pos (by omega) e (by omega) (by omega)).1]
    subst hz; simp [h1, h2]
theorem rd_den {x y : Int} (hy : y ≠ 0) : (if false = true then -((y.natAbs / Nat.gcd x.natAbs y.natAbs : Nat) : Int) else ((y.natAbs / Nat.gcd x.natAbs y.natAbs : Nat) : Int)) = rdD x y := by
  have hg : 0 < Nat.gcd x.natAbs y.natAbs := Nat.gcd_pos_of_pos_right _ (by omega)
  have hd := Nat.gcd_dvd_right x.natAbs y.natAbs
  unfold rdD
  rw [if_neg hy]
  generalize Nat.gcd x.natAbs y.natAbs = g at *
  obtain ⟨k, hk⟩ := hd
  rw [hk, Nat.mul_div_cancel_left _ hg]
  have hgk : ((g * k : Nat) : Int) = (g : Int) * k := Int.natCast_mul _ _
  have e : rdY y = k * g + 0 := by unfold rdY; split <;> rw [Int.mul_comm, ← hgk] <;> omega
  rw [(qd_of_pos (by omega) e (by omega) (by omega)).1]
  simp

set_option maxHeartbeats 2000000 in
theorem refReduce_any (a b : List UInt8) (w : World) (ha : a.length ≤ 1100000) (hb : b.length ≤ 1100000) :
    Calls Tryz.prog 58 #[.string ⟨a.toArray⟩, .string ⟨b.toArray⟩] w (RetStr2 (Lib.itoa (rdN (Dec.dval a) (Dec.dval b))) (Lib.itoa (rdD (Dec.dval a) (Dec.dval b))) w) := by
  have HP1 : Hid (∀ w' : World, Calls Tryz.prog 90 #[.string ⟨a.toArray⟩] w' (RetDig (a.length + 1) (Dec.dval a) w')) := fun w' => refDigW a (by omega) w'
  have HP2 : Hid (∀ w' : World, Calls Tryz.prog 90 #[.string ⟨b.toArray⟩] w' (RetDig (b.length + 1) (Dec.dval b) w')) := fun w' => refDigW b (by omega) w'
  have HG : Hid (∀ w' : World, Calls Tryz.prog 91 #[.string ⟨a.toArray⟩, .string ⟨b.toArray⟩] w' (RetStr (Lib.itoa (Nat.gcd (Dec.dval a).natAbs (Dec.dval b).natAbs : Nat)) w')) := fun w' => refGcd_any a b w' (by omega) (by omega)
  have hgl : (Lib.itoa (Nat.gcd (Dec.dval a).natAbs (Dec.dval b).natAbs : Nat)).length ≤ 1100002 := by
    obtain ⟨K, hK⟩ : ∃ K, K = 1100001 := ⟨_, rfl⟩
    have := gcd_len (K := K) (x := Dec.dval a) (y := Dec.dval b) (by omega) (dval_lt18 (by omega)) (dval_lt18 (by omega))
    omega
  generalize Dec.dval a = x at *
  generalize Dec.dval b = y at *
  by_cases hy : y = 0
  · subst hy
    rw [show rdN x 0 = 0 from rfl, show rdD x 0 = 1 from rfl, Dec.itoa_zero, itoa_one]
    go_enter Tryz.func58, Tryz.ntmps58
    go_wp2_with fail
    refine (HP2.out _).mono ?_
    rintro e w2 ⟨A2, n2, c2, rfl, hs2, hn2, hb2⟩
    obtain rfl : n2 = 0 := (natAbs10 (x := 0) hs2.len).2 rfl
    go_wp2
    go_ret2
    exact ⟨rfl, hb2⟩
  · obtain ⟨z, hz⟩ : ∃ z, z = (!(decide (x < 0) == decide (y < 0))) := ⟨_, rfl⟩
    have HN := Lib.hid (rd_num (x := x) hy hz.symm)
    have HD := Lib.hid (rd_den (x := x) hy)
    have hg0 : 0 < Nat.gcd x.natAbs y.natAbs := Nat.gcd_pos_of_pos_right _ (by omega)
    generalize Nat.gcd x.natAbs y.natAbs = g at *
    have HPg : Hid (∀ w' : World, Calls Tryz.prog 90 #[.string ⟨(Lib.itoa (g : Int)).toArray⟩] w' (RetDig 1100100 (g : Int) w')) := fun w' => by
      have := refDigW (Lib.itoa (g : Int)) (by omega) w'
      rw [Dec.dval_itoa] at this
      exact this.mono (by
        rintro e w'' ⟨A, n, c, h1, h2, h3, h4⟩
        exact ⟨A, n, c, h1, h2, by omega, h4⟩)
    obtain ⟨s, hsd⟩ : ∃ s, s = decide (x < 0) := ⟨_, rfl⟩
    obtain ⟨s', hsd'⟩ : ∃ s', s' = decide (y < 0) := ⟨_, rfl⟩
    rw [← hsd, ← hsd'] at hz
    have hz' : (!(s == s')) = z := hz.symm
    have HSD := Lib.hid hsd
    have HSD' := Lib.hid hsd'
    clear hsd hsd' hz hgl
    go_enter Tryz.func58, Tryz.ntmps58
    go_wp2_with fail
    refine (HP2.out _).mono ?_
    rintro e w2 ⟨A2, n2, c2, rfl, hs2, hn2, hb2⟩
    rw [← HSD'.out]
    have hn20 : ((n2 : Int) == 0) = false := by rw [beq_eq_false_iff_ne]; intro e; exact hy ((natAbs10 hs2.len).1 (by omega))
    clear hy
    go_wp2_with fail
    refine (HP1.out _).mono ?_
    rintro e w1 ⟨A1, n1, c1, rfl, hs1, hn1, hb1⟩
    rw [← HSD.out]
    have b1 := hb2.trans (hb1.mono hb2.size)
    have hsB1 := hs2.below hb1
    go_wp2_with fail
    refine (HG.out _).mono ?_
    rintro e w3 ⟨rfl, hb3⟩
    have b3 := b1.trans (hb3.mono b1.size)
    have hsA3 := hs1.below hb3
    have hsB3 := hsB1.below hb3
    go_wp2_with fail
    refine (HPg.out _).mono ?_
    rintro e w4 ⟨A4, n4, c4, rfl, hs4, hn4, hb4⟩
    have b4 := b3.trans (hb4.mono b3.size)
    have hsA4 := hsA3.below hb4
    have hsB4 := hsB3.below hb4
    rw [show decide ((g : Int) < 0) = false from decide_eq_false (by omega)]
    rw [Int.natAbs_natCast] at hs4
    have hlq := length10_div (b := g) hsA4.len
    have hld := length10_div (b := g) hsB4.len
    go_wp2_with fail
    refine (refOver_any A1 A4 n1 n4 c1 c4 _ _ w4 hsA4 hs4 (by omega) (by omega) hg0).mono ?_
    rintro e w5 ⟨A5, n5, c5, A6, n6, c6, rfl, hs5, hs6, hb5⟩
    have b5 := b4.trans (hb5.mono b4.size)
    have hn5 : n5 ≤ n1 := by rw [← hs5.len]; exact hlq
    go_wp2_with fail
    refine (refOver_any A2 A4 n2 n4 c2 c4 _ _ w5 (hsB4.below hb5) (hs4.below hb5) (by omega) (by omega) hg0).mono ?_
    rintro e w7 ⟨A7, n7, c7, A8, n8, c8, rfl, hs7, hs8, hb7⟩
    have b7 := b5.trans (hb7.mono b5.size)
    have hn7 : n7 ≤ n2 := by rw [← hs7.len]; exact hld
    go_wp2_with fail
    refine (refTextV z A5 n5 c5 _ _ _ (hs5.below hb7) (by omega) HN.out).mono ?_
    rintro e w9 ⟨rfl, hb9⟩
    have b9 := b7.trans (hb9.mono b7.size)
    go_wp2_with fail
    refine (refTextV false A7 n7 c7 _ _ _ (hs7.below hb9) (by omega) HD.out).mono ?_
    rintro e w10 ⟨rfl, hb10⟩
    go_wp2
    go_ret2
    exact ⟨rfl, b9.trans (hb10.mono b9.size)⟩
end Go.Proofs.YtlbbfmijemnjdaaGreatDoor
/- lispproverref1.Small, Digits. -/
namespace Go.Proofs.YtlbbfmijemnjdaaGreatDoor
open Go.RowKit

theorem digits_len (l : List UInt8) : (Dec.mag (norm l)).length = max 1 (Dec.limbs 10 (Dec.dval l).natAbs).length := by
  have hm := mag_norm l
  have hd := norm_dec l
  have hv := dval_norm l
  generalize norm l = s at hm hd hv
  by_cases h48 : s = [48]
  · subst h48
    rw [← hv]
    decide +kernel
  · obtain ⟨h1, h2, h3, _⟩ := hm
    obtain ⟨_, hh⟩ := (Dec.isDec_iff h48).1 hd
    have h4 := Dec.revDigs_limbs h1 hh
    rw [h3] at h4
    rw [← h4]
    have : (Dec.revDigs (Dec.mag s)).length = (Dec.mag s).length := by simp [Dec.revDigs]
    rw [this]
    have : 0 < (Dec.mag s).length := List.length_pos_iff.2 h2
    omega

set_option maxHeartbeats 1000000 in
theorem refDigitsN_any (l : List UInt8) (w : World) (hl : l.length ≤ 2500000) :
    Calls Tryz.prog 125 #[.string ⟨l.toArray⟩] w (RetI64 ((Dec.mag (norm l)).length : Nat) w) := by
  have HD := Lib.hid (refDigW l hl w)
  have HL := Lib.hid (digits_len l)
  generalize (Dec.mag (norm l)).length = K at *
  generalize Dec.dval l = x at *
  obtain ⟨s, hsd⟩ : ∃ s, s = decide (x < 0) := ⟨_, rfl⟩
  have HSD := Lib.hid hsd
  clear hsd
  go_enter Tryz.func125, Tryz.ntmps125
  go_wp2_with fail
  refine HD.out.mono ?_
  rintro e w1 ⟨A1, n1, c1, rfl, hs1, hn1, hb1⟩
  rw [← HSD.out]
  have HN := Lib.hid hs1.len
  go_wp2
  go_ret
  refine ⟨?_, hb1⟩
  rw [HL.out, HN.out, show ((max 1 n1 : Nat) : Int) = max 1 (n1 : Int) by omega]
  rfl

end Go.Proofs.YtlbbfmijemnjdaaGreatDoor
/- What reducing a fraction gives, in words of integers. -/
namespace Go.Proofs.YtlbbfmijemnjdaaGreatDoor
open Go.RowKit

end Go.Proofs.YtlbbfmijemnjdaaGreatDoor
/- The reference of objects: constructors and the small questions. -/
namespace Go.Proofs.YtlbbfmijemnjdaaGreatDoor
open Go.RowKit

theorem divInt_one' (n : Int) : Rat.divInt n 1 = (n : Rat) := by
  have := Rat.num_divInt_den (n : Rat)
  rwa [Rat.num_intCast, Rat.den_intCast] at this
set_option maxHeartbeats 400000 in
theorem rLisp_any (l : List UInt8) (w : World) : Calls Tryz.prog 36 #[str l] w (RetBel (.agg #[str lispB, str l]) w) := by
  go_enter Tryz.func36, Tryz.ntmps36
  go_wp2
  exact bodyPost_ret (v := .agg #[str lispB, str l]) (by simp [results, Tryz.results36, go_sem]) rfl ⟨rfl, box _ _⟩
set_option maxHeartbeats 400000 in
theorem refFromInt_any (n : Int) (w : World) (ht : Tab w) (h0 : -9223372036854775808 ≤ n) (h1 : n ≤ 9223372036854775807) :
    Calls Tryz.prog 32 #[.int .i64 n] w (RetStr (Lib.itoa n) w) := by
  have HI := Lib.hid (itoa_any n w ht h0 h1)
  clear h0 h1
  go_enter Tryz.func32, Tryz.ntmps32
  go_wp2_with fail
  refine HI.out.mono ?_
  rintro e w1 ⟨rfl, hb⟩
  go_wp2
  go_ret
  exact ⟨rfl, hb⟩
set_option maxHeartbeats 400000 in
theorem rNil_any (w : World) : Calls Tryz.prog 135 #[] w (RetLeaf nilO w) := by
  go_enter Tryz.func135, Tryz.ntmps135
  go_wp2_with fail
  refine (rLisp_any nilB _).mono ?_
  rintro e w1 ⟨rfl, hb⟩
  go_wp2_with fail
  refine (rSymbol_any _ lispB nilB).mono ?_
  rintro e w2 ⟨rfl, hb2⟩
  have HB := Lib.hid ((BlkIs.via hb).below hb2)
  obtain ⟨u0, u1, u2, u3, u4, u5, u6, ul⟩ := HB.out.seven
  obtain ⟨uf0, uf1, uf2, uf3, uf4, uf5, uf6⟩ := HB.out.frozen7
  go_wp2
  exact ret_obj Tryz.results135 rfl HB.out.put7 rfl ⟨rfl, set7 (then_ (via hb) hb2) (Nat.le_refl _) _ _ _ _ _ _ _⟩
set_option maxHeartbeats 400000 in
theorem rRational_any (a b : List UInt8) (w : World) (ha : a.length ≤ 1100000) (hb : b.length ≤ 1100000) : Calls Tryz.prog 31 #[str a, str b] w (RetLeaf (numO (Lib.itoa (rdN (Dec.dval a) (Dec.dval b))) (Lib.itoa (rdD (Dec.dval a) (Dec.dval b)))) w) := by
  have HF := Lib.hid (fun w' (_ : Below w.heap.size w w') => refReduce_any a b w' ha hb)
  clear ha hb
  generalize Lib.itoa (rdN (Dec.dval a) (Dec.dval b)) = n at *
  generalize Lib.itoa (rdD (Dec.dval a) (Dec.dval b)) = d at *
  go_enter Tryz.func31, Tryz.ntmps31
  go_wp2_with fail
  refine (HF.out _ (box _ _)).mono ?_
  rintro e w1 ⟨rfl, hb⟩
  have HB := Lib.hid (BlkIs.via hb)
  obtain ⟨u0, u1, u2, u3, u4, u5, u6, hu⟩ := HB.out.seven
  obtain ⟨f0, f1, f2, f3, f4, f5, f6⟩ := HB.out.frozen7
  go_wp2
  exact ret_obj Tryz.results31 rfl HB.out.put7 rfl ⟨rfl, set7 (via hb) (Nat.le_refl _) _ _ _ _ _ _ _⟩
theorem rRationalQ (a b : List UInt8) (w : World) (ha : a.length ≤ 1100000) (hb : b.length ≤ 1100000) : Calls Tryz.prog 31 #[str a, str b] w (RetLeaf (ratO (Rat.divInt (Dec.dval a) (Dec.dval b))) w) := by
  have := rRational_any a b w ha hb
  rwa [(rd_rat _ _).1, (rd_rat _ _).2] at this
set_option maxHeartbeats 400000 in
theorem rCons_any (ok : Nat → Prop) (a d : Ob) (A A' : Option Addr) (n n' c c' : Nat) (w : World) (ha : Rd ok w (.slice A n c) (.row (a.pair.map Ob.enc))) (hd : Rd ok w (.slice A' n' c') (.row (d.pair.map Ob.enc))) :
    Calls Tryz.prog 120 #[objV a (.slice A n c), objV d (.slice A' n' c')] w (RetObj ok (consO a d) w) := by
  go_enter Tryz.func120, Tryz.ntmps120
  go_wp2
  exact ret_obj Tryz.results120 rfl ((BlkIs.new2 w _ _ _ _).alloc _) rfl (cons_ret ok a d A A' n n' c c' w ha hd)
set_option maxHeartbeats 400000 in
theorem rInt_any (n : Int) (w : World) (ht : Tab w) (h0 : -9223372036854775808 ≤ n) (h1 : n ≤ 9223372036854775807) : Calls Tryz.prog 14 #[.int .i64 n] w (RetLeaf (ratO (n : Rat)) w) := by
  have HF := Lib.hid (fun w' (hb : Below w.heap.size w w') => refFromInt_any n w' (ht.below hb) h0 h1)
  have hl : (Lib.itoa n).length ≤ 20 := itoa_length_any n (k := 19) (by omega) (by omega)
  have HR : Hid (∀ w' : World, Calls Tryz.prog 31 #[str (Lib.itoa n), str [49]] w' (RetLeaf (ratO (n : Rat)) w')) := fun w' => by
    have := rRationalQ (Lib.itoa n) [49] w' (by omega) (by decide)
    rwa [Dec.dval_itoa, show Dec.dval [49] = 1 by decide +kernel, divInt_one'] at this
  unfold ratO at HR ⊢
  clear h0 h1 hl
  generalize Lib.itoa (n : Rat).num = l1 at *
  generalize Lib.itoa ((n : Rat).den : Int) = l2 at *
  generalize Lib.itoa n = ln at *
  go_enter Tryz.func14, Tryz.ntmps14
  go_wp2_with fail
  refine (HF.out _ (box _ _)).mono ?_
  rintro e w1 ⟨rfl, hb⟩
  go_wp2_with fail
  refine (HR.out _).mono ?_
  rintro e w2 ⟨rfl, hb2⟩
  have HB := Lib.hid ((BlkIs.via hb).below hb2)
  obtain ⟨u0, u1, u2, u3, u4, u5, u6, ul⟩ := HB.out.seven
  obtain ⟨uf0, uf1, uf2, uf3, uf4, uf5, uf6⟩ := HB.out.frozen7
  go_wp2
  exact ret_obj Tryz.results14 rfl HB.out.put7 rfl ⟨rfl, set7 (then_ (via hb) hb2) (Nat.le_refl _) _ _ _ _ _ _ _⟩
set_option maxHeartbeats 2000000 in
set_option maxRecDepth 100000 in
theorem rList_any (ok : Nat → Prop) (l : List Ob) (A : Option Addr) (n c : Nat) (w : World) (h : Rd ok w (.slice A n c) (.row (l.map Ob.enc))) (hn : n ≤ 1000000) :
    Calls Tryz.prog 121 #[.slice A n c] w (RetObj ok (listO l) w) := by
  have HL := Lib.hid h.len
  go_enter Tryz.func121, Tryz.ntmps121
  go_wp2_with fail
  refine (rNil_any _).mono ?_
  rintro e w1 ⟨rfl, hb1⟩
  have R1 := Lib.hid (BlkIs.via hb1)
  have b1 : Below w.heap.size w w1 := via hb1
  have hsz := R1.out.lt
  clear hb1
  go_wp2
  go_loopw [4] (fun ix wr => ∃ (j : Nat) (o : Ob) (Ao : Option Addr) (no co : Nat), j ≤ n ∧ ix = .int .i64 ((j : Int) - 1) ∧ Hid (o = listO (l.drop j)) ∧ Hid (BlkIs wr w.heap.size 32 zeroCells) ∧ Hid (BlkIs wr w1.heap.size 32 (obCells o (.slice Ao no co))) ∧ Rd (fun b => (ok b ∧ b < w.heap.size) ∨ w1.heap.size < b) wr (.slice Ao no co) (.row (o.pair.map Ob.enc)) ∧ Below w.heap.size w wr) (fun ix _ => (intOf ix + 1).toNat)
  case atStart => exact ⟨n, nilO, none, 0, 0, Nat.le_refl _, rfl, Lib.hid (by rw [List.drop_of_length_le (by have := HL.out; rw [List.length_map] at this; omega)]; rfl), Lib.hid (R1.out.alloc _), Lib.hid (BlkIs.new w1 _ _), .nil _ _, box2 b1 _⟩
  case round =>
    obtain ⟨j, o, Ao, no, co, hj, rfl, HO, R, X, hr, hb⟩ := hrel
    clear b1 R1
    have hgs := X.out.lt
    obtain ⟨x0, x1, x2, x3, x4, x5, x6, xl⟩ := X.out.seven
    obtain ⟨xf0, xf1, xf2, xf3, xf4, xf5, xf6⟩ := X.out.frozen7
    rcases Nat.eq_zero_or_pos j with h0 | h0
    · subst h0
      obtain ⟨r0, r1, r2, r3, r4, r5, r6, rl⟩ := R.out.seven
      obtain ⟨rf0, rf1, rf2, rf3, rf4, rf5, rf6⟩ := R.out.frozen7
      go_wp2
      have e : o = listO l := by rw [HO.out]; rfl
      refine ret_obj Tryz.results121 rfl R.out.put7 rfl ⟨Ao, no, co, by rw [← e], ?_, set7 hb (Nat.le_refl _) _ _ _ _ _ _ _⟩
      rw [← e]
      refine Rd.mono (hr.far7 (g := w.heap.size) (fun b hb' => by omega) _ _ _ _ _ _ _) (fun b hb' _ => ?_)
      rcases hb' with h1 | h1
      · exact .inl h1.1
      · exact .inr (by omega)
    · obtain ⟨b, q, hil, A3, n3, c3, rfl, hbl, hok, a0, a1, a2, a3, a4, a5, a6, ha⟩ := h.objs hb (i := j - 1) (by omega)
      have hbl' := Nat.lt_of_lt_of_le hbl hb.size
      have HS := Lib.hid (drop_cons hil)
      have hi1 : (0 : Int) ≤ (j : Int) - 1 := by omega
      have hi2 : (j : Int) - 1 < n := by omega
      have hi3 : ((j : Int) - 1).toNat = j - 1 := by omega
      have ha' : Rd (fun b => (ok b ∧ b < w.heap.size) ∨ w1.heap.size < b) wr.drew (.slice A3 n3 c3) (.row ((l[j - 1]).pair.map Ob.enc)) := (((ha.mono fun b h1 h2 => ⟨h1, h2⟩ : Rd (fun b => ok b ∧ b < w.heap.size) w _ _).under hb).mono fun b h1 _ => .inl h1).drew
      have HC := Lib.hid (rCons_any (fun b => (ok b ∧ b < w.heap.size) ∨ w1.heap.size < b) l[j - 1] o A3 Ao n3 no c3 co wr.drew ha' hr.drew)
      have hbd := hb.drew
      go_upto_region 5 with (fail)
      go_still_tail 5, (by kernel_rfl)
      go_wp2_with fail
      refine HC.out.mono ?_
      rintro e v ⟨A5, n5, c5, rfl, hr5, hb5⟩
      have X5 := Lib.hid (X.out.drew.below hb5)
      have R5 := Lib.hid (R.out.drew.below hb5)
      have hv := hb5.size
      have hb5' := then_ hbd hb5
      clear x0 xf0 x1 xf1 x2 xf2 x3 xf3 x4 xf4 x5 xf5 x6 xf6 a0 a1 a2 a3 a4 a5 a6
      obtain ⟨y0, y1, y2, y3, y4, y5, y6, yl⟩ := X5.out.seven
      obtain ⟨yf0, yf1, yf2, yf3, yf4, yf5, yf6⟩ := X5.out.frozen7
      go_wp2
      go_roundw
      case rel =>
        refine ⟨j - 1, consO l[j - 1] o, A5, n5, c5, by omega, by go_num, Lib.hid ?_, Lib.hid (R5.out.far7 (by omega) _ _ _ _ _ _ _), Lib.hid X5.out.put7, ?_, set7 hb5' (by omega) _ _ _ _ _ _ _⟩
        · have := HS.out
          rw [Nat.sub_add_cancel h0, ← HO.out] at this
          exact this.symm
        · refine (hr5.mono (fun b h1 _ => ?_)).far7 (fun b h1 => by omega) _ _ _ _ _ _ _
          rcases h1 with h1 | h1
          · exact h1
          · right
            have : wr.drew.heap.size = wr.heap.size := rfl
            omega
      case measure => simp only [intOf]; omega
end Go.Proofs.YtlbbfmijemnjdaaGreatDoor
/- The reference of objects: Equal, IsNil. -/
namespace Go.Proofs.YtlbbfmijemnjdaaGreatDoor
open Go.RowKit

theorem all_eq {l m : List Ob} {n : Nat} (hl : l.length = n) (hm : m.length = n) (h : ∀ j (h1 : j < l.length) (h2 : j < m.length), j < n → l[j] = m[j]) : l = m := by
  apply List.ext_getElem (by omega)
  intro i h1 h2
  exact h i h1 h2 (by omega)
set_option maxHeartbeats 8000000 in
set_option maxRecDepth 100000 in
theorem rEqual_any (ok ok' : Nat → Prop) : ∀ (N : Nat) (a b : Ob), a.size ≤ N → a.Wf → ∀ (A A' : Option Addr) (n n' c c' : Nat) (w : World), Rd ok w (.slice A n c) (.row (a.pair.map Ob.enc)) → Rd ok' w (.slice A' n' c') (.row (b.pair.map Ob.enc)) →
    Calls Tryz.prog 85 #[objV a (.slice A n c), objV b (.slice A' n' c')] w (RetEq (a = b) w) := by
  intro N
  induction N with
  | zero => intro a b h; have := Ob.size_pos a; omega
  | succ N ih =>
    intro a b hN hW A A' n n' c c' w hx hy
    obtain ⟨P, HP⟩ : ∃ P : Prop, Hid (P ↔ a = b) := ⟨_, Lib.hid Iff.rfl⟩
    rw [show (a = b) = P from propext HP.out.symm]
    obtain ⟨xk, xn, xd, xp, xs, xt, xl⟩ := a
    obtain ⟨yk, yn, yd, yp, ys, yt, yl⟩ := b
    have hxl := hx.len
    have hyl := hy.len
    rw [List.length_map] at hxl hyl
    have hw1 := hW.len
    dsimp only at hxl hyl hw1
    by_cases hk : xk = yk
    case neg =>
      have hz : (xk != yk) = true := by rw [bne_iff_ne]; exact hk
      have HF : Hid (¬ P) := fun e => hk (by have e1 := HP.out.1 e; injection e1)
      clear hk hxl hyl
      go_enter Tryz.func85, Tryz.ntmps85
      go_wp2
      go_ret
      exact ⟨false, rfl, iff_no HF.out, box2 (box _ _) _⟩
    subst hk
    by_cases hn : xn = yn
    case neg =>
      have hz : (xn == yn) = false := by rw [beq_eq_false_iff_ne]; exact hn
      have HF : Hid (¬ P) := fun e => hn (by have e1 := HP.out.1 e; injection e1)
      clear hn hxl hyl
      go_enter Tryz.func85, Tryz.ntmps85
      go_wp2
      go_ret
      exact ⟨false, rfl, iff_no HF.out, box2 (box _ _) _⟩
    subst hn
    by_cases hd : xd = yd
    case neg =>
      have hz : (xd == yd) = false := by rw [beq_eq_false_iff_ne]; exact hd
      have HF : Hid (¬ P) := fun e => hd (by have e1 := HP.out.1 e; injection e1)
      clear hd hxl hyl
      go_enter Tryz.func85, Tryz.ntmps85
      go_wp2
      go_ret
      exact ⟨false, rfl, iff_no HF.out, box2 (box _ _) _⟩
    subst hd
    by_cases hp : xp = yp
    case neg =>
      have hz : (xp == yp) = false := by rw [beq_eq_false_iff_ne]; exact hp
      have HF : Hid (¬ P) := fun e => hp (by have e1 := HP.out.1 e; injection e1)
      clear hp hxl hyl
      go_enter Tryz.func85, Tryz.ntmps85
      go_wp2
      go_ret
      exact ⟨false, rfl, iff_no HF.out, box2 (box _ _) _⟩
    subst hp
    by_cases hs : xs = ys
    case neg =>
      have hz : (xs == ys) = false := by rw [beq_eq_false_iff_ne]; exact hs
      have HF : Hid (¬ P) := fun e => hs (by have e1 := HP.out.1 e; injection e1)
      clear hs hxl hyl
      go_enter Tryz.func85, Tryz.ntmps85
      go_wp2
      go_ret
      exact ⟨false, rfl, iff_no HF.out, box2 (box _ _) _⟩
    subst hs
    by_cases ht : xt = yt
    case neg =>
      have hz : (xt == yt) = false := by rw [beq_eq_false_iff_ne]; exact ht
      have HF : Hid (¬ P) := fun e => ht (by have e1 := HP.out.1 e; injection e1)
      clear ht hxl hyl
      go_enter Tryz.func85, Tryz.ntmps85
      go_wp2
      go_ret
      exact ⟨false, rfl, iff_no HF.out, box2 (box _ _) _⟩
    subst ht
    by_cases hl : n = n'
    case neg =>
      have hz : ((n : Int) != (n' : Int)) = true := by rw [bne_iff_ne]; omega
      have HF : Hid (¬ P) := fun e => hl (by have e1 := HP.out.1 e; injection e1 with _ _ _ _ _ _ e2; rw [← hxl, ← hyl, e2])
      clear hl hxl hyl
      go_enter Tryz.func85, Tryz.ntmps85
      go_wp2
      go_ret
      exact ⟨false, rfl, iff_no HF.out, box2 (box _ _) _⟩
    subst hl
    have HXL := Lib.hid hxl
    have HYL := Lib.hid hyl
    rw [hxl] at hw1
    clear hxl hyl
    go_enter Tryz.func85, Tryz.ntmps85
    go_wp2
    go_loopw [5] (fun ix wq => ∃ i : Nat, i ≤ n ∧ ix = .int .i64 i ∧ Hid (∀ j (h1 : j < xl.length) (h2 : j < yl.length), j < i → xl[j] = yl[j]) ∧ Hid (BlkIs wq w.heap.size 32 (obCells ⟨xk, xn, xd, xp, xs, xt, xl⟩ (.slice A n c))) ∧ Hid (BlkIs wq (w.heap.size + 1) 32 (obCells ⟨xk, xn, xd, xp, xs, xt, yl⟩ (.slice A' n c'))) ∧ Below w.heap.size w wq) (fun ix _ => n - (intOf ix).toNat)
    case atStart => exact ⟨0, Nat.zero_le _, rfl, Lib.hid (fun j _ _ h => absurd h (by omega)), Lib.hid ((BlkIs.new w _ _).alloc _), Lib.hid (BlkIs.new1 w _ _ _), box2 (box _ _) _⟩
    case round =>
      obtain ⟨i, hi, rfl, HJ, HX, HY, hb⟩ := hrel
      obtain ⟨u0, u1, u2, u3, u4, u5, u6, hu⟩ := HX.out.seven
      obtain ⟨v0, v1, v2, v3, v4, v5, v6, hv⟩ := HY.out.seven
      by_cases hin : i < n
      · obtain ⟨p1, q1, hil, A4, n4, c4, rfl, hp1, _, a0, a1, a2, a3, a4, a5, a6, ha⟩ := hx.objs hb (i := i) hin
        obtain ⟨p2, q2, hil', A5, n5, c5, rfl, hp2, _, b0, b1, b2, b3, b4, b5, b6, hb'⟩ := hy.objs hb (i := i) hin
        have hp1' := Nat.lt_of_lt_of_le hp1 hb.size
        have hp2' := Nat.lt_of_lt_of_le hp2 hb.size
        have hsz := Ob.size_pair (o := ⟨xk, xn, xd, xp, xs, xt, xl⟩) (x := xl[i]) (List.getElem_mem hil)
        have hwf := hW.kids (x := xl[i]) (List.getElem_mem hil)
        have HC : Hid (∀ wd : World, Below w.heap.size w wd → Calls Tryz.prog 85 #[objV xl[i] (.slice A4 n4 c4), objV yl[i] (.slice A5 n5 c5)] wd (RetEq (xl[i] = yl[i]) wd)) := fun wd hd => ih xl[i] yl[i] (by omega) hwf A4 A5 n4 n5 c4 c5 wd (ha.under hd) (hb'.under hd)
        have hi1 : (0 : Int) ≤ (i : Int) := by omega
        have hi2 : (i : Int) < n := by omega
        have hbd := hb.drew
        go_upto_region 6 with (fail)
        go_still_tail 10, (by kernel_rfl)
        go_wp2_with fail
        refine (HC.out _ hbd).mono ?_
        rintro e w1 ⟨bb, rfl, hbb, hb1⟩
        have hbw1 := then_ hbd hb1
        cases bb with
        | false =>
          have HF : Hid (¬ P) := fun e => by
            have e1 := HP.out.1 e
            injection e1 with _ _ _ _ _ _ e2
            have := hbb.2 (by subst e2; rfl)
            cases this
          clear hbb
          go_wp2
          go_ret
          exact ⟨false, rfl, iff_no HF.out, hbw1⟩
        | true =>
          have HE := Lib.hid (hbb.1 rfl)
          clear hbb
          go_wp2
          go_roundw
          case rel => exact ⟨i + 1, by omega, by go_num, Lib.hid (fun j h1 h2 h => by
            rcases Nat.lt_or_ge j i with h3 | h3
            · exact HJ.out j h1 h2 h3
            · obtain rfl : j = i := by omega
              exact HE.out), Lib.hid (HX.out.drew.below hb1), Lib.hid (HY.out.drew.below hb1), hbw1⟩
          case measure => simp only [intOf]; omega
      · obtain rfl : i = n := by omega
        have HT : Hid P := HP.out.2 (by
          rw [all_eq HXL.out HYL.out HJ.out])
        go_wp2
        go_ret
        exact ⟨true, rfl, iff_yes HT.out, hb⟩
end Go.Proofs.YtlbbfmijemnjdaaGreatDoor
/- The reference of objects: IsNil, IsInteger, Fix. -/
namespace Go.Proofs.YtlbbfmijemnjdaaGreatDoor
open Go.RowKit

end Go.Proofs.YtlbbfmijemnjdaaGreatDoor
/- Which objects are formed and valid, how many nodes they have: package object and the reference, for any object. -/
namespace Go.Proofs.YtlbbfmijemnjdaaGreatDoor
open Go.RowKit

abbrev dg (l : List UInt8) : Nat := (Dec.mag (norm l)).length
/-- a fraction in lowest terms within the limits -/
def lowB (n d : List UInt8) : Bool := decide (Lib.itoa (rdN (Dec.dval n) (Dec.dval d)) = n ∧ Lib.itoa (rdD (Dec.dval n) (Dec.dval d)) = d ∧ dg n ≤ 100 ∧ dg d ≤ 100)
namespace Ob
mutual
def formB : Ob → Bool
  | ⟨k, n, d, p, s, t, l⟩ =>
    if k = 4 then decide (n = [] ∧ d = [] ∧ p = [] ∧ s = [] ∧ t = [] ∧ l.length = 2) && allB l
    else if k = 1 then decide (p = [] ∧ s = [] ∧ t = [] ∧ l.length = 0) && lowB n d
    else if k = 2 then decide (n = [] ∧ d = [] ∧ t = [] ∧ l.length = 0) && symOk ⟨p, s⟩
    else if k = 3 then decide (n = [] ∧ d = [] ∧ p = [] ∧ s = [] ∧ t.length ≤ 200 ∧ l.length = 0)
    else false
def allB : List Ob → Bool
  | [] => true
  | o :: r => formB o && allB r
end
theorem formB_eq (k : Int) (n d p s t : List UInt8) (l : List Ob) : formB ⟨k, n, d, p, s, t, l⟩ = (if k = 4 then decide (n = [] ∧ d = [] ∧ p = [] ∧ s = [] ∧ t = [] ∧ l.length = 2) && allB l
    else if k = 1 then decide (p = [] ∧ s = [] ∧ t = [] ∧ l.length = 0) && lowB n d
    else if k = 2 then decide (n = [] ∧ d = [] ∧ t = [] ∧ l.length = 0) && symOk ⟨p, s⟩
    else if k = 3 then decide (n = [] ∧ d = [] ∧ p = [] ∧ s = [] ∧ t.length ≤ 200 ∧ l.length = 0)
    else false) := by rw [formB]
/-- numerals of at most B letters, all the way down -/
inductive Sm : Ob → Prop
  | mk (o : Ob) (hn : o.num.length ≤ 1100000) (hd : o.den.length ≤ 1100000) (h : ∀ x ∈ o.pair, Sm x) : Sm o
theorem Sm.kids {o x : Ob} (h : o.Sm) (hx : x ∈ o.pair) : x.Sm := by
  cases h with
  | mk _ _ _ h => exact h x hx
theorem Sm.len {o : Ob} (h : o.Sm) : o.num.length ≤ 1100000 ∧ o.den.length ≤ 1100000 := by
  cases h with
  | mk _ a b _ => exact ⟨a, b⟩
end Ob
set_option maxHeartbeats 1000000 in
theorem bareC_any (o : Ob) (A : Option Addr) (n c : Nat) (w : World) : Calls Tryz.prog 114 #[objV o (.slice A n c), .bool false, .bool false, .bool false] w (RetBel (.bool (decide (o.num = [] ∧ o.den = [] ∧ o.sp = [] ∧ o.sn = [] ∧ o.text = []))) w) := by
  obtain ⟨k, nm, d, p, sy, t, l⟩ := o
  dsimp only
  by_cases hnm : nm = []
  case neg =>
    rw [decide_eq_false (fun h => hnm (h.1))]
    have hz : (nm == []) = false := by rw [beq_eq_false_iff_ne]; exact hnm
    clear hnm
    go_enter Tryz.func114, Tryz.ntmps114
    go_wp2
    go_ret
    exact ⟨rfl, box _ _⟩
  subst hnm
  by_cases hd : d = []
  case neg =>
    rw [decide_eq_false (fun h => hd (h.2.1))]
    have hz : (d == []) = false := by rw [beq_eq_false_iff_ne]; exact hd
    clear hd
    go_enter Tryz.func114, Tryz.ntmps114
    go_wp2
    go_ret
    exact ⟨rfl, box _ _⟩
  subst hd
  by_cases hp : p = []
  case neg =>
    rw [decide_eq_false (fun h => hp (h.2.2.1))]
    have hz : (p == []) = false := by rw [beq_eq_false_iff_ne]; exact hp
    clear hp
    go_enter Tryz.func114, Tryz.ntmps114
    go_wp2
    go_ret
    exact ⟨rfl, box _ _⟩
  subst hp
  by_cases hsy : sy = []
  case neg =>
    rw [decide_eq_false (fun h => hsy (h.2.2.2.1))]
    have hz : (sy == []) = false := by rw [beq_eq_false_iff_ne]; exact hsy
    clear hsy
    go_enter Tryz.func114, Tryz.ntmps114
    go_wp2
    go_ret
    exact ⟨rfl, box _ _⟩
  subst hsy
  by_cases ht : t = []
  case neg =>
    rw [decide_eq_false (fun h => ht (h.2.2.2.2))]
    have hz : (t == []) = false := by rw [beq_eq_false_iff_ne]; exact ht
    clear ht
    go_enter Tryz.func114, Tryz.ntmps114
    go_wp2
    go_ret
    exact ⟨rfl, box _ _⟩
  subst ht
  rw [decide_eq_true (by simp)]
  go_enter Tryz.func114, Tryz.ntmps114
  go_wp2
  go_ret
  exact ⟨rfl, box _ _⟩
set_option maxHeartbeats 1000000 in
theorem bareN_any (o : Ob) (A : Option Addr) (n c : Nat) (w : World) : Calls Tryz.prog 114 #[objV o (.slice A n c), .bool true, .bool false, .bool false] w (RetBel (.bool (decide (o.sp = [] ∧ o.sn = [] ∧ o.text = []))) w) := by
  obtain ⟨k, nm, d, p, sy, t, l⟩ := o
  dsimp only
  by_cases hp : p = []
  case neg =>
    rw [decide_eq_false (fun h => hp (h.1))]
    have hz : (p == []) = false := by rw [beq_eq_false_iff_ne]; exact hp
    clear hp
    go_enter Tryz.func114, Tryz.ntmps114
    go_wp2
    go_ret
    exact ⟨rfl, box _ _⟩
  subst hp
  by_cases hsy : sy = []
  case neg =>
    rw [decide_eq_false (fun h => hsy (h.2.1))]
    have hz : (sy == []) = false := by rw [beq_eq_false_iff_ne]; exact hsy
    clear hsy
    go_enter Tryz.func114, Tryz.ntmps114
    go_wp2
    go_ret
    exact ⟨rfl, box _ _⟩
  subst hsy
  by_cases ht : t = []
  case neg =>
    rw [decide_eq_false (fun h => ht (h.2.2))]
    have hz : (t == []) = false := by rw [beq_eq_false_iff_ne]; exact ht
    clear ht
    go_enter Tryz.func114, Tryz.ntmps114
    go_wp2
    go_ret
    exact ⟨rfl, box _ _⟩
  subst ht
  rw [decide_eq_true (by simp)]
  go_enter Tryz.func114, Tryz.ntmps114
  go_wp2
  go_ret
  exact ⟨rfl, box _ _⟩
set_option maxHeartbeats 1000000 in
theorem bareS_any (o : Ob) (A : Option Addr) (n c : Nat) (w : World) : Calls Tryz.prog 114 #[objV o (.slice A n c), .bool false, .bool true, .bool false] w (RetBel (.bool (decide (o.num = [] ∧ o.den = [] ∧ o.text = []))) w) := by
  obtain ⟨k, nm, d, p, sy, t, l⟩ := o
  dsimp only
  by_cases hnm : nm = []
  case neg =>
    rw [decide_eq_false (fun h => hnm (h.1))]
    have hz : (nm == []) = false := by rw [beq_eq_false_iff_ne]; exact hnm
    clear hnm
    go_enter Tryz.func114, Tryz.ntmps114
    go_wp2
    go_ret
    exact ⟨rfl, box _ _⟩
  subst hnm
  by_cases hd : d = []
  case neg =>
    rw [decide_eq_false (fun h => hd (h.2.1))]
    have hz : (d == []) = false := by rw [beq_eq_false_iff_ne]; exact hd
    clear hd
    go_enter Tryz.func114, Tryz.ntmps114
    go_wp2
    go_ret
    exact ⟨rfl, box _ _⟩
  subst hd
  by_cases ht : t = []
  case neg =>
    rw [decide_eq_false (fun h => ht (h.2.2))]
    have hz : (t == []) = false := by rw [beq_eq_false_iff_ne]; exact ht
    clear ht
    go_enter Tryz.func114, Tryz.ntmps114
    go_wp2
    go_ret
    exact ⟨rfl, box _ _⟩
  subst ht
  rw [decide_eq_true (by simp)]
  go_enter Tryz.func114, Tryz.ntmps114
  go_wp2
  go_ret
  exact ⟨rfl, box _ _⟩
set_option maxHeartbeats 1000000 in
theorem bareT_any (o : Ob) (A : Option Addr) (n c : Nat) (w : World) : Calls Tryz.prog 114 #[objV o (.slice A n c), .bool false, .bool false, .bool true] w (RetBel (.bool (decide (o.num = [] ∧ o.den = [] ∧ o.sp = [] ∧ o.sn = []))) w) := by
  obtain ⟨k, nm, d, p, sy, t, l⟩ := o
  dsimp only
  by_cases hnm : nm = []
  case neg =>
    rw [decide_eq_false (fun h => hnm (h.1))]
    have hz : (nm == []) = false := by rw [beq_eq_false_iff_ne]; exact hnm
    clear hnm
    go_enter Tryz.func114, Tryz.ntmps114
    go_wp2
    go_ret
    exact ⟨rfl, box _ _⟩
  subst hnm
  by_cases hd : d = []
  case neg =>
    rw [decide_eq_false (fun h => hd (h.2.1))]
    have hz : (d == []) = false := by rw [beq_eq_false_iff_ne]; exact hd
    clear hd
    go_enter Tryz.func114, Tryz.ntmps114
    go_wp2
    go_ret
    exact ⟨rfl, box _ _⟩
  subst hd
  by_cases hp : p = []
  case neg =>
    rw [decide_eq_false (fun h => hp (h.2.2.1))]
    have hz : (p == []) = false := by rw [beq_eq_false_iff_ne]; exact hp
    clear hp
    go_enter Tryz.func114, Tryz.ntmps114
    go_wp2
    go_ret
    exact ⟨rfl, box _ _⟩
  subst hp
  by_cases hsy : sy = []
  case neg =>
    rw [decide_eq_false (fun h => hsy (h.2.2.2))]
    have hz : (sy == []) = false := by rw [beq_eq_false_iff_ne]; exact hsy
    clear hsy
    go_enter Tryz.func114, Tryz.ntmps114
    go_wp2
    go_ret
    exact ⟨rfl, box _ _⟩
  subst hsy
  rw [decide_eq_true (by simp)]
  go_enter Tryz.func114, Tryz.ntmps114
  go_wp2
  go_ret
  exact ⟨rfl, box _ _⟩
theorem lowB_dec {n d : List UInt8} (h : lowB n d = true) : Dec.isDec n = true ∧ Dec.isDec d = true ∧ dg n ≤ 100 ∧ dg d ≤ 100 := by
  unfold lowB at h
  obtain ⟨h1, h2, h3, h4⟩ := of_decide_eq_true h
  exact ⟨by rw [← h1]; exact Dec.isDec_itoa _, by rw [← h2]; exact Dec.isDec_itoa _, h3, h4⟩
set_option maxHeartbeats 1000000 in
theorem lowest_any (a b : List UInt8) (w : World) (ht : Tab w) (ha : a.length ≤ 1100000) (hb : b.length ≤ 1100000) : Calls Tryz.prog 115 #[str a, str b] w (RetBel (.bool (lowB a b)) w) := by
  have HV1 : Hid (∀ w' : World, Calls Tryz.prog 132 #[str a] w' (RetPure (.bool (Dec.isDec a)) w')) := fun w' => valid_any a w' (by omega)
  have HV2 : Hid (∀ w' : World, Calls Tryz.prog 132 #[str b] w' (RetPure (.bool (Dec.isDec b)) w')) := fun w' => valid_any b w' (by omega)
  have HD1 : Hid (∀ w' : World, Calls Tryz.prog 133 #[str a] w' (RetPure (.int .i64 (dg a : Nat)) w')) := fun w' => digits_any a w' (by omega)
  have HD2 : Hid (∀ w' : World, Calls Tryz.prog 133 #[str b] w' (RetPure (.int .i64 (dg b : Nat)) w')) := fun w' => digits_any b w' (by omega)
  have HR : Hid (∀ w' : World, Below w.heap.size w w' → Calls Tryz.prog 134 #[str a, str b] w' (RetStr2 (Lib.itoa (rdN (Dec.dval a) (Dec.dval b))) (Lib.itoa (rdD (Dec.dval a) (Dec.dval b))) w')) := fun w' hb' => reduceN_any a b w' ha hb (ht.below hb')
  have hda : dg a ≤ 1100002 := by have h1 := Dec.mag_length_le (norm a); have h2 := norm_length a; show (Dec.mag (norm a)).length ≤ _; omega
  have hdb : dg b ≤ 1100002 := by have h1 := Dec.mag_length_le (norm b); have h2 := norm_length b; show (Dec.mag (norm b)).length ≤ _; omega
  have HN : Hid (∀ h : ¬ (Dec.isDec a = true ∧ Dec.isDec b = true ∧ dg a ≤ 100 ∧ dg b ≤ 100), lowB a b = false) := fun h => by
    rw [Bool.eq_false_iff]; exact fun e => h (lowB_dec e)
  have HL : Hid (lowB a b = decide (Lib.itoa (rdN (Dec.dval a) (Dec.dval b)) = a ∧ Lib.itoa (rdD (Dec.dval a) (Dec.dval b)) = b ∧ dg a ≤ 100 ∧ dg b ≤ 100)) := rfl
  generalize lowB a b = z at *
  generalize Lib.itoa (rdN (Dec.dval a) (Dec.dval b)) = x at *
  generalize Lib.itoa (rdD (Dec.dval a) (Dec.dval b)) = y at *
  generalize dg a = da at *
  generalize dg b = db at *
  cases h1 : Dec.isDec a with
  | false =>
    obtain rfl := HN.out (fun h => by rw [h1] at h; cases h.1)
    rw [h1] at HV1
    clear HL HN h1
    go_enter Tryz.func115, Tryz.ntmps115
    go_wp2_with fail
    refine (HV1.out _).mono ?_
    rintro e w' ⟨rfl, rfl⟩
    go_wp2
    go_ret
    exact ⟨rfl, Below.refl _ _⟩
  | true =>
  rw [h1] at HV1
  cases h2 : Dec.isDec b with
  | false =>
    obtain rfl := HN.out (fun h => by rw [h2] at h; cases h.2.1)
    rw [h2] at HV2
    clear HL HN h1 h2
    go_enter Tryz.func115, Tryz.ntmps115
    go_wp2_with fail
    refine (HV1.out _).mono ?_
    rintro e w' ⟨rfl, rfl⟩
    go_wp2_with fail
    refine (HV2.out _).mono ?_
    rintro e w' ⟨rfl, rfl⟩
    go_wp2
    go_ret
    exact ⟨rfl, Below.refl _ _⟩
  | true =>
  rw [h2] at HV2
  have VV : Hid (Dec.isDec a = true ∧ Dec.isDec b = true) := ⟨h1, h2⟩
  clear h1 h2
  by_cases h3 : da ≤ 100
  case neg =>
    obtain rfl := HN.out (fun h => h3 h.2.2.1)
    clear HL HN VV
    go_enter Tryz.func115, Tryz.ntmps115
    go_wp2_with fail
    refine (HV1.out _).mono ?_
    rintro e w' ⟨rfl, rfl⟩
    go_wp2_with fail
    refine (HV2.out _).mono ?_
    rintro e w' ⟨rfl, rfl⟩
    go_wp2_with fail
    refine (HD1.out _).mono ?_
    rintro e w' ⟨rfl, rfl⟩
    go_wp2
    go_ret
    exact ⟨rfl, Below.refl _ _⟩
  by_cases h4 : db ≤ 100
  case neg =>
    obtain rfl := HN.out (fun h => h4 h.2.2.2)
    clear HL HN VV
    go_enter Tryz.func115, Tryz.ntmps115
    go_wp2_with fail
    refine (HV1.out _).mono ?_
    rintro e w' ⟨rfl, rfl⟩
    go_wp2_with fail
    refine (HV2.out _).mono ?_
    rintro e w' ⟨rfl, rfl⟩
    go_wp2_with fail
    refine (HD1.out _).mono ?_
    rintro e w' ⟨rfl, rfl⟩
    go_wp2_with fail
    refine (HD2.out _).mono ?_
    rintro e w' ⟨rfl, rfl⟩
    go_wp2
    go_ret
    exact ⟨rfl, Below.refl _ _⟩
  have HZ : Hid (z = decide (x = a ∧ y = b)) := by
    show z = _
    rw [HL.out]
    exact decide_eq_decide.2 ⟨fun h => ⟨h.1, h.2.1⟩, fun h => ⟨h.1, h.2, h3, h4⟩⟩
  clear HN HL VV
  by_cases h5 : x = a
  · by_cases h6 : y = b
    · obtain rfl : z = true := by rw [HZ.out]; exact decide_eq_true ⟨h5, h6⟩
      subst h5 h6
      clear HZ
      go_enter Tryz.func115, Tryz.ntmps115
      go_wp2_with fail
      refine (HV1.out _).mono ?_
      rintro e w' ⟨rfl, rfl⟩
      go_wp2_with fail
      refine (HV2.out _).mono ?_
      rintro e w' ⟨rfl, rfl⟩
      go_wp2_with fail
      refine (HD1.out _).mono ?_
      rintro e w' ⟨rfl, rfl⟩
      go_wp2_with fail
      refine (HD2.out _).mono ?_
      rintro e w' ⟨rfl, rfl⟩
      go_wp2_with fail
      refine (HR.out _ (Below.refl _ _)).mono ?_
      rintro e w1 ⟨rfl, hb1⟩
      go_wp2
      go_ret
      exact ⟨rfl, hb1⟩
    · obtain rfl : z = false := by rw [HZ.out]; exact decide_eq_false (fun h => h6 h.2)
      subst h5
      have hz : (y == b) = false := by rw [beq_eq_false_iff_ne]; exact h6
      clear HZ h6
      go_enter Tryz.func115, Tryz.ntmps115
      go_wp2_with fail
      refine (HV1.out _).mono ?_
      rintro e w' ⟨rfl, rfl⟩
      go_wp2_with fail
      refine (HV2.out _).mono ?_
      rintro e w' ⟨rfl, rfl⟩
      go_wp2_with fail
      refine (HD1.out _).mono ?_
      rintro e w' ⟨rfl, rfl⟩
      go_wp2_with fail
      refine (HD2.out _).mono ?_
      rintro e w' ⟨rfl, rfl⟩
      go_wp2_with fail
      refine (HR.out _ (Below.refl _ _)).mono ?_
      rintro e w1 ⟨rfl, hb1⟩
      go_wp2
      go_ret
      exact ⟨rfl, hb1⟩
  · obtain rfl : z = false := by rw [HZ.out]; exact decide_eq_false (fun h => h5 h.1)
    have hz : (x == a) = false := by rw [beq_eq_false_iff_ne]; exact h5
    clear HZ h5
    go_enter Tryz.func115, Tryz.ntmps115
    go_wp2_with fail
    refine (HV1.out _).mono ?_
    rintro e w' ⟨rfl, rfl⟩
    go_wp2_with fail
    refine (HV2.out _).mono ?_
    rintro e w' ⟨rfl, rfl⟩
    go_wp2_with fail
    refine (HD1.out _).mono ?_
    rintro e w' ⟨rfl, rfl⟩
    go_wp2_with fail
    refine (HD2.out _).mono ?_
    rintro e w' ⟨rfl, rfl⟩
    go_wp2_with fail
    refine (HR.out _ (Below.refl _ _)).mono ?_
    rintro e w1 ⟨rfl, hb1⟩
    go_wp2
    go_ret
    exact ⟨rfl, hb1⟩
set_option maxHeartbeats 4000000 in
set_option maxRecDepth 100000 in
theorem formed_any (ok : Nat → Prop) : ∀ (N : Nat) (o : Ob), o.size ≤ N → o.Wf → o.Sm → ∀ (A : Option Addr) (n c : Nat) (w : World), Tab w → Rd ok w (.slice A n c) (.row (o.pair.map Ob.enc)) →
    Calls Tryz.prog 99 #[objV o (.slice A n c)] w (RetBel (.bool o.formB) w) := by
  intro N
  induction N with
  | zero => intro o h; have := Ob.size_pos o; omega
  | succ N ih =>
    intro o hN hW hS A n c w ht hP
    obtain ⟨fb, hfb⟩ : ∃ fb, fb = o.formB := ⟨_, rfl⟩
    rw [← hfb]
    have HF0 : Hid (o.formB = fb) := hfb.symm
    clear hfb
    go_enter Tryz.func99, Tryz.ntmps99
    go_wp2
    go_loopg [2] o.size (fun gx lv wr => ∃ (x : Ob) (A2 : Option Addr) (n2 c2 : Nat), lv = .bool false ∧ Hid (BlkIs wr w.heap.size 32 (obCells x (.slice A2 n2 c2))) ∧ Rd ok w (.slice A2 n2 c2) (.row (x.pair.map Ob.enc)) ∧ x.size ≤ N + 1 ∧ Hid x.Wf ∧ Hid x.Sm ∧ Hid (x.formB = fb) ∧ x.size ≤ gx ∧ Below w.heap.size w wr)
    case atStart => exact ⟨o, A, n, c, rfl, Lib.hid (BlkIs.new w _ _), hP, hN, Lib.hid hW, Lib.hid hS, HF0, Nat.le_refl _, box _ _⟩
    case round =>
      clear HF0 hW hS hP
      obtain ⟨⟨xk, xn, xd, xp, xs, xt, xl'⟩, A2, n2, c2, rfl, X, hr, hxN, HXW, HXS, HF, hgx, hb⟩ := hrel
      have hlen := hr.len
      rw [List.length_map] at hlen
      have hw1 := HXW.out.len
      have hs1 := HXS.out.len
      dsimp only at hlen hw1 hs1 hr X
      have hn2 : n2 ≤ 9223372036854775807 := by rw [← hlen]; exact hw1
      obtain ⟨hs1, hs2⟩ := hs1
      clear hw1
      obtain ⟨x0, x1, x2, x3, x4, x5, x6, xl⟩ := X.out.seven
      obtain ⟨xf0, xf1, xf2, xf3, xf4, xf5, xf6⟩ := X.out.frozen7
      by_cases h4 : xk = 4
      · subst h4
        have HBR : Hid (∀ w' : World, Calls Tryz.prog 114 #[objV ⟨4, xn, xd, xp, xs, xt, xl'⟩ (.slice A2 n2 c2), .bool false, .bool false, .bool false] w' (RetBel (.bool (decide (xn = [] ∧ xd = [] ∧ xp = [] ∧ xs = [] ∧ xt = []))) w')) := fun w' => bareC_any ⟨4, xn, xd, xp, xs, xt, xl'⟩ A2 n2 c2 w'
        by_cases h2 : n2 = 2
        case neg =>
          obtain rfl : fb = false := by rw [← HF.out, Ob.formB_eq, if_pos rfl]; rw [Bool.eq_false_iff]; intro h; simp only [Bool.and_eq_true, decide_eq_true_eq] at h; exact h2 (by rw [← hlen]; simp [h])
          have hz : ((n2 : Int) != 2) = true := by rw [bne_iff_ne]; omega
          clear HF HBR hlen
          go_wp2
          go_ret
          exact ⟨rfl, hb⟩
        subst h2
        by_cases hbr : xn = [] ∧ xd = [] ∧ xp = [] ∧ xs = [] ∧ xt = []
        case neg =>
          rw [decide_eq_false hbr] at HBR
          obtain rfl : fb = false := by rw [← HF.out, Ob.formB_eq, if_pos rfl]; rw [Bool.eq_false_iff]; intro h; simp only [Bool.and_eq_true, decide_eq_true_eq] at h; exact hbr (by simp [h])
          clear HF hbr hlen
          go_wp2_with fail
          refine (HBR.out _).mono ?_
          rintro e w1 ⟨rfl, hb1⟩
          go_wp2
          go_ret
          exact ⟨rfl, then_ hb hb1⟩
        rw [decide_eq_true hbr] at HBR
        obtain ⟨rfl, rfl, rfl, rfl, rfl⟩ := hbr
        obtain ⟨a, d, rfl⟩ := Ob.two_of_length hlen
        have hsa := Ob.size_pair (o := ⟨4, [], [], [], [], [], [a, d]⟩) (x := a) (by simp)
        have hsd := Ob.size_pair (o := ⟨4, [], [], [], [], [], [a, d]⟩) (x := d) (by simp)
        have HWa := Lib.hid (HXW.out.kids (x := a) (by simp))
        have HWd := Lib.hid (HXW.out.kids (x := d) (by simp))
        have HSa := Lib.hid (HXS.out.kids (x := a) (by simp))
        have HSd := Lib.hid (HXS.out.kids (x := d) (by simp))
        have HF2 : Hid ((a.formB && d.formB) = fb) := by
          show _ = fb
          rw [← HF.out, Ob.formB_eq, if_pos rfl]
          simp [Ob.allB]
        clear hlen HF HXW HXS
        go_wp2_with fail
        refine (HBR.out _).mono ?_
        rintro e w1 ⟨rfl, hb1⟩
        have b1 := then_ hb hb1
        have X1 := Lib.hid (X.out.below hb1)
        clear x0 xf0 x1 xf1 x2 xf2 x3 xf3 x4 xf4 x5 xf5 x6 xf6
        obtain ⟨y0, y1, y2, y3, y4, y5, y6, yl⟩ := X1.out.seven
        obtain ⟨b, q, _, A3, n3, c3', rfl, hbl, _, a0, a1, a2, a3, a4, a5, a6, ha⟩ := hr.objs b1 (i := 0) (by omega)
        simp only [List.getElem_cons_zero, Nat.zero_mul, Nat.add_zero] at a0 a1 a2 a3 a4 a5 a6 ha
        have hbl' := Nat.lt_of_lt_of_le hbl b1.size
        have HC := Lib.hid (ih a (by omega) HWa.out HSa.out A3 n3 c3' w1 (ht.below b1) (ha.under b1))
        generalize a.formB = ba at *
        go_wp2_with fail
        refine HC.out.mono ?_
        rintro e w2 ⟨rfl, hb2⟩
        have b2 := then_ b1 hb2
        have X2 := Lib.hid (X1.out.below hb2)
        clear y0 y1 y2 y3 y4 y5 y6 a0 a1 a2 a3 a4 a5 a6
        cases ba with
        | false =>
          obtain rfl : fb = false := HF2.out.symm
          clear HF2
          go_wp2
          go_ret
          exact ⟨rfl, b2⟩
        | true =>
          obtain ⟨z0, z1, z2, z3, z4, z5, z6, zl⟩ := X2.out.seven
          obtain ⟨zf0, zf1, zf2, zf3, zf4, zf5, zf6⟩ := X2.out.frozen7
          obtain ⟨b', q', _, A4, n4, c4', eA, _, _, d0, d1, d2, d3, d4, d5, d6, hd⟩ := hr.objs b2 (i := 1) (by omega)
          injection eA with eA
          injection eA with eb eq
          subst eb eq
          simp only [List.getElem_cons_zero, List.getElem_cons_succ, Nat.one_mul] at d0 d1 d2 d3 d4 d5 d6 hd
          have hbl2 := Nat.lt_of_lt_of_le hbl b2.size
          go_wp2
          go_roundg d.size
          case measure => omega
          case rel => exact ⟨d, A4, n4, c4', rfl, Lib.hid X2.out.put7, hd, by omega, HWd, HSd, Lib.hid HF2.out, Nat.le_refl _, set7 b2 (Nat.le_refl _) _ _ _ _ _ _ _⟩
      have e4 : (xk == 4) = false := by rw [beq_eq_false_iff_ne]; exact h4
      have HT := Lib.hid (HXW.out)
      by_cases h1 : xk = 1
      · subst h1
        clear h4 e4
        have HBR : Hid (∀ w' : World, Calls Tryz.prog 114 #[objV ⟨1, xn, xd, xp, xs, xt, xl'⟩ (.slice A2 n2 c2), .bool true, .bool false, .bool false] w' (RetBel (.bool (decide (xp = [] ∧ xs = [] ∧ xt = []))) w')) := fun w' => bareN_any ⟨1, xn, xd, xp, xs, xt, xl'⟩ A2 n2 c2 w'
        by_cases hbr : xp = [] ∧ xs = [] ∧ xt = []
        case neg =>
          rw [decide_eq_false hbr] at HBR
          obtain rfl : fb = false := by rw [← HF.out, Ob.formB_eq]; simp only [show ¬ ((1 : Int) = 4) by decide, if_false, if_true]; rw [Bool.eq_false_iff]; intro h; simp only [Bool.and_eq_true, decide_eq_true_eq] at h; exact hbr (by simp [h])
          clear HF hbr hlen
          go_wp2_with fail
          refine (HBR.out _).mono ?_
          rintro e w1 ⟨rfl, hb1⟩
          go_wp2
          go_ret
          exact ⟨rfl, then_ hb hb1⟩
        rw [decide_eq_true hbr] at HBR
        by_cases hn0 : n2 = 0
        case neg =>
          obtain rfl : fb = false := by rw [← HF.out, Ob.formB_eq]; simp only [show ¬ ((1 : Int) = 4) by decide, if_false, if_true]; rw [Bool.eq_false_iff]; intro h; simp only [Bool.and_eq_true, decide_eq_true_eq] at h; exact hn0 (by rw [← hlen]; simp [h])
          have hz : ((n2 : Int) == 0) = false := by rw [beq_eq_false_iff_ne]; omega
          clear HF hbr hlen
          go_wp2_with fail
          refine (HBR.out _).mono ?_
          rintro e w1 ⟨rfl, hb1⟩
          have X1 := Lib.hid (X.out.below hb1)
          clear x0 xf0 x1 xf1 x2 xf2 x3 xf3 x4 xf4 x5 xf5 x6 xf6
          obtain ⟨y0, y1, y2, y3, y4, y5, y6, yl⟩ := X1.out.seven
          go_wp2
          go_ret
          exact ⟨rfl, then_ hb hb1⟩
        subst hn0
        obtain rfl : fb = lowB xn xd := by rw [← HF.out, Ob.formB_eq]; simp [hbr, hlen]
        have HLW : Hid (∀ w' : World, Below w.heap.size w w' → Calls Tryz.prog 115 #[str xn, str xd] w' (RetBel (.bool (lowB xn xd)) w')) := fun w' hb' => lowest_any xn xd w' (ht.below hb') hs1 hs2
        generalize lowB xn xd = bl at *
        clear HF hbr hlen
        go_wp2_with fail
        refine (HBR.out _).mono ?_
        rintro e w1 ⟨rfl, hb1⟩
        have X1 := Lib.hid (X.out.below hb1)
        clear x0 xf0 x1 xf1 x2 xf2 x3 xf3 x4 xf4 x5 xf5 x6 xf6
        obtain ⟨y0, y1, y2, y3, y4, y5, y6, yl⟩ := X1.out.seven
        go_wp2_with fail
        refine (HLW.out _ (then_ hb hb1)).mono ?_
        rintro e w2 ⟨rfl, hb2⟩
        cases bl
        · go_wp2
          go_ret
          exact ⟨rfl, then_ (then_ hb hb1) hb2⟩
        · go_wp2
          go_ret
          exact ⟨rfl, then_ (then_ hb hb1) hb2⟩
      have e1 : (xk == 1) = false := by rw [beq_eq_false_iff_ne]; exact h1
      by_cases h2 : xk = 2
      · subst h2
        clear h4 e4 h1 e1
        have HBR : Hid (∀ w' : World, Calls Tryz.prog 114 #[objV ⟨2, xn, xd, xp, xs, xt, xl'⟩ (.slice A2 n2 c2), .bool false, .bool true, .bool false] w' (RetBel (.bool (decide (xn = [] ∧ xd = [] ∧ xt = []))) w')) := fun w' => bareS_any ⟨2, xn, xd, xp, xs, xt, xl'⟩ A2 n2 c2 w'
        by_cases hbr : xn = [] ∧ xd = [] ∧ xt = []
        case neg =>
          rw [decide_eq_false hbr] at HBR
          obtain rfl : fb = false := by rw [← HF.out, Ob.formB_eq]; simp only [show ¬ ((2 : Int) = 4) by decide, if_false, if_true, show ¬ ((2 : Int) = 1) by decide]; rw [Bool.eq_false_iff]; intro h; simp only [Bool.and_eq_true, decide_eq_true_eq] at h; exact hbr (by simp [h])
          clear HF hbr hlen
          go_wp2_with fail
          refine (HBR.out _).mono ?_
          rintro e w1 ⟨rfl, hb1⟩
          go_wp2
          go_ret
          exact ⟨rfl, then_ hb hb1⟩
        rw [decide_eq_true hbr] at HBR
        by_cases hn0 : n2 = 0
        case neg =>
          obtain rfl : fb = false := by rw [← HF.out, Ob.formB_eq]; simp only [show ¬ ((2 : Int) = 4) by decide, if_false, if_true, show ¬ ((2 : Int) = 1) by decide]; rw [Bool.eq_false_iff]; intro h; simp only [Bool.and_eq_true, decide_eq_true_eq] at h; exact hn0 (by rw [← hlen]; simp [h])
          have hz : ((n2 : Int) == 0) = false := by rw [beq_eq_false_iff_ne]; omega
          clear HF hbr hlen
          go_wp2_with fail
          refine (HBR.out _).mono ?_
          rintro e w1 ⟨rfl, hb1⟩
          have X1 := Lib.hid (X.out.below hb1)
          clear x0 xf0 x1 xf1 x2 xf2 x3 xf3 x4 xf4 x5 xf5 x6 xf6
          obtain ⟨y0, y1, y2, y3, y4, y5, y6, yl⟩ := X1.out.seven
          go_wp2
          go_ret
          exact ⟨rfl, then_ hb hb1⟩
        subst hn0
        obtain rfl : fb = symOk ⟨xp, xs⟩ := by rw [← HF.out, Ob.formB_eq]; simp [hbr, hlen]
        have HLW : Hid (∀ w' : World, Calls Tryz.prog 116 #[.agg #[str xp, str xs]] w' (RetBel (.bool (symOk ⟨xp, xs⟩)) w')) := fun w' => objSymbol_any ⟨xp, xs⟩ w' (by cases HT.out; assumption) (by cases HT.out; assumption)
        generalize symOk ⟨xp, xs⟩ = bl at *
        clear HF hbr hlen
        go_wp2_with fail
        refine (HBR.out _).mono ?_
        rintro e w1 ⟨rfl, hb1⟩
        have X1 := Lib.hid (X.out.below hb1)
        clear x0 xf0 x1 xf1 x2 xf2 x3 xf3 x4 xf4 x5 xf5 x6 xf6
        obtain ⟨y0, y1, y2, y3, y4, y5, y6, yl⟩ := X1.out.seven
        go_wp2_with fail
        refine (HLW.out _).mono ?_
        rintro e w2 ⟨rfl, hb2⟩
        cases bl
        · go_wp2
          go_ret
          exact ⟨rfl, then_ (then_ hb hb1) hb2⟩
        · go_wp2
          go_ret
          exact ⟨rfl, then_ (then_ hb hb1) hb2⟩
      have e2 : (xk == 2) = false := by rw [beq_eq_false_iff_ne]; exact h2
      by_cases h3 : xk = 3
      · subst h3
        clear h4 e4 h1 e1 h2 e2
        have hxt : xt.length ≤ 9223372036854775807 := by cases HT.out; assumption
        have HBR : Hid (∀ w' : World, Calls Tryz.prog 114 #[objV ⟨3, xn, xd, xp, xs, xt, xl'⟩ (.slice A2 n2 c2), .bool false, .bool false, .bool true] w' (RetBel (.bool (decide (xn = [] ∧ xd = [] ∧ xp = [] ∧ xs = []))) w')) := fun w' => bareT_any ⟨3, xn, xd, xp, xs, xt, xl'⟩ A2 n2 c2 w'
        by_cases hbr : xn = [] ∧ xd = [] ∧ xp = [] ∧ xs = []
        case neg =>
          rw [decide_eq_false hbr] at HBR
          obtain rfl : fb = false := by rw [← HF.out, Ob.formB_eq]; simp only [show ¬ ((3 : Int) = 4) by decide, if_false, if_true, show ¬ ((3 : Int) = 1) by decide, show ¬ ((3 : Int) = 2) by decide]; rw [Bool.eq_false_iff]; intro h; simp only [decide_eq_true_eq] at h; exact hbr (by simp [h])
          clear HF hbr hlen
          go_wp2_with fail
          refine (HBR.out _).mono ?_
          rintro e w1 ⟨rfl, hb1⟩
          go_wp2
          go_ret
          exact ⟨rfl, then_ hb hb1⟩
        rw [decide_eq_true hbr] at HBR
        by_cases hn0 : n2 = 0
        case neg =>
          obtain rfl : fb = false := by rw [← HF.out, Ob.formB_eq]; simp only [show ¬ ((3 : Int) = 4) by decide, if_false, if_true, show ¬ ((3 : Int) = 1) by decide, show ¬ ((3 : Int) = 2) by decide]; rw [Bool.eq_false_iff]; intro h; simp only [decide_eq_true_eq] at h; exact hn0 (by rw [← hlen]; simp [h])
          have hz : ((n2 : Int) == 0) = false := by rw [beq_eq_false_iff_ne]; omega
          clear HF hbr hlen
          go_wp2_with fail
          refine (HBR.out _).mono ?_
          rintro e w1 ⟨rfl, hb1⟩
          have X1 := Lib.hid (X.out.below hb1)
          clear x0 xf0 x1 xf1 x2 xf2 x3 xf3 x4 xf4 x5 xf5 x6 xf6
          obtain ⟨y0, y1, y2, y3, y4, y5, y6, yl⟩ := X1.out.seven
          go_wp2
          go_ret
          exact ⟨rfl, then_ hb hb1⟩
        subst hn0
        by_cases h200 : xt.length ≤ 200
        · obtain rfl : fb = true := by rw [← HF.out, Ob.formB_eq]; simp [hbr, hlen, h200]
          have hd2 : decide ((xt.length : Int) ≤ 200) = true := decide_eq_true (by omega)
          clear HF hbr hlen HXW HXS HT
          go_wp2_with fail
          refine (HBR.out _).mono ?_
          rintro e w1 ⟨rfl, hb1⟩
          have X1 := Lib.hid (X.out.below hb1)
          clear x0 xf0 x1 xf1 x2 xf2 x3 xf3 x4 xf4 x5 xf5 x6 xf6
          obtain ⟨y0, y1, y2, y3, y4, y5, y6, yl⟩ := X1.out.seven
          go_wp2
          go_ret
          exact ⟨rfl, then_ hb hb1⟩
        · obtain rfl : fb = false := by rw [← HF.out, Ob.formB_eq]; simp [h200]
          have hd2 : decide ((xt.length : Int) ≤ 200) = false := decide_eq_false (by omega)
          clear HF hbr hlen HXW HXS HT
          go_wp2_with fail
          refine (HBR.out _).mono ?_
          rintro e w1 ⟨rfl, hb1⟩
          have X1 := Lib.hid (X.out.below hb1)
          clear x0 xf0 x1 xf1 x2 xf2 x3 xf3 x4 xf4 x5 xf5 x6 xf6
          obtain ⟨y0, y1, y2, y3, y4, y5, y6, yl⟩ := X1.out.seven
          go_wp2
          go_ret
          exact ⟨rfl, then_ hb hb1⟩
      have e3 : (xk == 3) = false := by rw [beq_eq_false_iff_ne]; exact h3
      obtain rfl : fb = false := by rw [← HF.out, Ob.formB_eq, if_neg h4, if_neg h1, if_neg h2, if_neg h3]
      clear HF h1 h2 h3 h4
      go_wp2
      go_ret
      exact ⟨rfl, hb⟩
/-- valid: not too many nodes, and formed -/
def Ob.validB (o : Ob) : Bool := decide (o.nodes ≤ 3000) && o.formB
set_option maxHeartbeats 1000000 in
theorem oValid_any (ok : Nat → Prop) (o : Ob) (hW : o.Wf) (hS : o.Sm) (A : Option Addr) (n c : Nat) (w : World) (ht : Tab w) (hP : Rd ok w (.slice A n c) (.row (o.pair.map Ob.enc))) :
    Calls Tryz.prog 79 #[objV o (.slice A n c)] w (RetBel (.bool o.validB) w) := by
  have HN : Hid (∀ w' : World, Below w.heap.size w w' → Calls Tryz.prog 98 #[objV o (.slice A n c)] w' (RetBel (.int .i64 (nodesP o)) w')) := fun w' hb => oNodes_any ok o A n c w' (hP.under hb)
  have HF : Hid (∀ w' : World, Below w.heap.size w w' → Calls Tryz.prog 99 #[objV o (.slice A n c)] w' (RetBel (.bool o.formB) w')) := fun w' hb => formed_any ok o.size o (Nat.le_refl _) hW hS A n c w' (ht.below hb) (hP.under hb)
  unfold Ob.validB
  by_cases hk : o.nodes ≤ 3000
  · have hk' : nodesP o ≤ 3000 := by unfold nodesP; split <;> omega
    rw [decide_eq_true hk, Bool.true_and]
    generalize o.formB = fb at *
    generalize nodesP o = z at *
    clear hk
    go_enter Tryz.func79, Tryz.ntmps79
    go_wp2_with fail
    refine (HN.out _ (box _ _)).mono ?_
    rintro e w1 ⟨rfl, hb1⟩
    have X1 := Lib.hid (BlkIs.via hb1)
    obtain ⟨y0, y1, y2, y3, y4, y5, y6, yl⟩ := X1.out.seven
    go_wp2_with fail
    refine (HF.out _ (via hb1)).mono ?_
    rintro e w2 ⟨rfl, hb2⟩
    go_wp2
    go_ret
    exact ⟨rfl, then_ (via hb1) hb2⟩
  · have hk' : ¬ nodesP o ≤ 3000 := by unfold nodesP; split <;> omega
    rw [decide_eq_false hk, Bool.false_and]
    generalize nodesP o = z at *
    clear hk
    go_enter Tryz.func79, Tryz.ntmps79
    go_wp2_with fail
    refine (HN.out _ (box _ _)).mono ?_
    rintro e w1 ⟨rfl, hb1⟩
    go_wp2
    go_ret
    exact ⟨rfl, via hb1⟩
end Go.Proofs.YtlbbfmijemnjdaaGreatDoor
/- Valid symbols and package names: symbol.Valid, ValidPackage, lispproverref4.Valid, ValidPackage; what they reach of package object. -/
namespace Go.Proofs.YtlbbfmijemnjdaaGreatDoor
open Go.RowKit

/-- the object of a symbol -/
abbrev symObj (s : Sy) : Value := .agg #[.int .i64 2, str [], str [], str s.pkg, str s.name, str [], .slice none 0 0]
abbrev symAgg (s : Sy) : Value := .agg #[str s.pkg, str s.name]

set_option maxHeartbeats 400000 in
theorem objSym_any (s : Sy) (w : World) : Calls Tryz.prog 96 #[symAgg s] w (RetBel (symObj s) w) := by
  go_enter Tryz.func96, Tryz.ntmps96
  go_wp2
  exact bodyPost_ret (v := symObj s) (by simp [results, Tryz.results96, go_sem]) rfl ⟨rfl, box2 (box _ _) _⟩
set_option maxHeartbeats 400000 in
theorem objRest_any (s : Sy) (w : World) : Calls Tryz.prog 113 #[symObj s, .int .i64 3001] w (RetBel (.int .i64 3000) w) := by
  go_enter Tryz.func113, Tryz.ntmps113
  go_wp2
  refine wp_loop_rounds 1 ?_
  rw [rounds_succ]
  go_wp2
  go_ret
  exact ⟨rfl, box _ _⟩
set_option maxHeartbeats 400000 in
theorem objBare_any (s : Sy) (w : World) : Calls Tryz.prog 114 #[symObj s, .bool false, .bool true, .bool false] w (RetBel (.bool true) w) := by
  go_enter Tryz.func114, Tryz.ntmps114
  go_wp2
  go_ret
  exact ⟨rfl, box _ _⟩
set_option maxHeartbeats 400000 in
theorem objNodes_any (s : Sy) (w : World) : Calls Tryz.prog 98 #[symObj s] w (RetBel (.int .i64 1) w) := by
  go_enter Tryz.func98, Tryz.ntmps98
  go_wp2_with fail
  refine (objRest_any s _).mono ?_
  rintro e w1 ⟨rfl, hb1⟩
  go_wp2
  go_ret
  exact ⟨rfl, via hb1⟩
set_option maxHeartbeats 400000 in
theorem objFormed_any (s : Sy) (w : World) (hp : s.pkg.length ≤ 9223372036854775807) (hn : s.name.length ≤ 9223372036854775807) : Calls Tryz.prog 99 #[symObj s] w (RetBel (.bool (symOk s)) w) := by
  go_enter Tryz.func99, Tryz.ntmps99
  go_wp2
  refine wp_loop_rounds 1 ?_
  rw [rounds_succ]
  go_wp2_with fail
  refine (objBare_any s _).mono ?_
  rintro e w1 ⟨rfl, hb1⟩
  obtain ⟨c0, c1, c2, c3, c4, c5, c6, hg⟩ := (BlkIs.via hb1).seven
  go_wp2_with fail
  refine (objSymbol_any s _ hp hn).mono ?_
  rintro e w2 ⟨rfl, hb2⟩
  go_wp2
  go_ret
  exact ⟨rfl, then_ (via hb1) hb2⟩
set_option maxHeartbeats 400000 in
theorem objValid_any (s : Sy) (w : World) (hp : s.pkg.length ≤ 9223372036854775807) (hn : s.name.length ≤ 9223372036854775807) : Calls Tryz.prog 79 #[symObj s] w (RetBel (.bool (symOk s)) w) := by
  have HF : Hid (∀ w' : World, Calls Tryz.prog 99 #[symObj s] w' (RetBel (.bool (symOk s)) w')) := fun w' => objFormed_any s w' hp hn
  go_enter Tryz.func79, Tryz.ntmps79
  go_wp2_with fail
  refine (objNodes_any s _).mono ?_
  rintro e w1 ⟨rfl, hb1⟩
  obtain ⟨c0, c1, c2, c3, c4, c5, c6, hg⟩ := (BlkIs.via hb1).seven
  go_wp2_with fail
  refine (HF.out _).mono ?_
  rintro e w2 ⟨rfl, hb2⟩
  go_wp2
  go_ret
  exact ⟨rfl, then_ (via hb1) hb2⟩

/-! ### symbol.Valid, ValidPackage -/
set_option maxHeartbeats 400000 in
theorem symValid_any (s : Sy) (w : World) (hp : s.pkg.length ≤ 9223372036854775807) (hn : s.name.length ≤ 9223372036854775807) : Calls Tryz.prog 80 #[symAgg s] w (RetBel (.bool (symOk s)) w) := by
  have HF : Hid (∀ w' : World, Calls Tryz.prog 79 #[symObj s] w' (RetBel (.bool (symOk s)) w')) := fun w' => objValid_any s w' hp hn
  go_enter Tryz.func80, Tryz.ntmps80
  go_wp2_with fail
  refine (objSym_any s _).mono ?_
  rintro e w1 ⟨rfl, hb1⟩
  go_wp2_with fail
  refine (HF.out _).mono ?_
  rintro e w2 ⟨rfl, hb2⟩
  go_wp2
  go_ret
  exact ⟨rfl, then_ (via hb1) hb2⟩
set_option maxHeartbeats 400000 in
theorem ref2Named_any (s : Sy) (w : World) (hp : s.pkg.length ≤ 9223372036854775807) (hn : s.name.length ≤ 9223372036854775807) : Calls Tryz.prog 105 #[symAgg s] w (RetBel (.bool (symOk s)) w) := by
  obtain ⟨l, m⟩ := s
  have HF : Hid (∀ (w' : World) (b : Bool), pkgOk l = b → Calls Tryz.prog 126 #[str l] w' (RetPureV (.bool b) w')) := fun w' b hb => by
    have := ref2Package_any l w' hp
    rwa [hb] at this
  dsimp only at hp hn ⊢
  cases h : pkgOk l with
  | false =>
    have HR : Hid (symOk ⟨l, m⟩ = false) := by show _ = _; unfold symOk; rw [h]; rfl
    have HH := Lib.hid h
    clear h
    go_enter Tryz.func105, Tryz.ntmps105
    go_wp2_with fail
    refine (HF.out _ _ HH.out).mono ?_
    rintro e w1 ⟨rfl, rfl⟩
    go_wp2
    go_ret
    exact ⟨by rw [HR.out]; rfl, box _ _⟩
  | true =>
    have HR : Hid (symOk ⟨l, m⟩ = nameOk m) := by show _ = _; unfold symOk; rw [h]; rfl
    have HH := Lib.hid h
    clear h
    by_cases h1 : 1 ≤ m.length
    · by_cases h2 : m.length ≤ 40
      · have HN : Hid (nameOk m = true) := by show _ = _; unfold nameOk; simp; omega
        have hd : decide ((m.length : Int) ≤ 40) = true := by simp; omega
        go_enter Tryz.func105, Tryz.ntmps105
        go_wp2_with fail
        refine (HF.out _ _ HH.out).mono ?_
        rintro e w1 ⟨rfl, rfl⟩
        go_wp2
        go_ret
        exact ⟨by rw [HR.out, HN.out]; rfl, box _ _⟩
      · have HN := Lib.hid (nameOk_len (l := m) (.inr (by omega)))
        have hd : decide ((m.length : Int) ≤ 40) = false := by simp; omega
        go_enter Tryz.func105, Tryz.ntmps105
        go_wp2_with fail
        refine (HF.out _ _ HH.out).mono ?_
        rintro e w1 ⟨rfl, rfl⟩
        go_wp2
        go_ret
        exact ⟨by rw [HR.out, HN.out]; rfl, box _ _⟩
    · have HN := Lib.hid (nameOk_len (l := m) (.inl (by omega)))
      have hd : decide (1 ≤ (m.length : Int)) = false := by simp; omega
      go_enter Tryz.func105, Tryz.ntmps105
      go_wp2_with fail
      refine (HF.out _ _ HH.out).mono ?_
      rintro e w1 ⟨rfl, rfl⟩
      go_wp2
      go_ret
      exact ⟨by rw [HR.out, HN.out]; rfl, box _ _⟩
set_option maxHeartbeats 400000 in
theorem ref4Valid_any (s : Sy) (w : World) (hp : s.pkg.length ≤ 9223372036854775807) (hn : s.name.length ≤ 9223372036854775807) : Calls Tryz.prog 88 #[symAgg s] w (RetBel (.bool (symOk s)) w) := by
  have HF : Hid (∀ w' : World, Calls Tryz.prog 105 #[symAgg s] w' (RetBel (.bool (symOk s)) w')) := fun w' => ref2Named_any s w' hp hn
  go_enter Tryz.func88, Tryz.ntmps88
  go_wp2_with fail
  refine (HF.out _).mono ?_
  rintro e w2 ⟨rfl, hb2⟩
  go_wp2
  go_ret
  exact ⟨rfl, via hb2⟩
end Go.Proofs.YtlbbfmijemnjdaaGreatDoor
