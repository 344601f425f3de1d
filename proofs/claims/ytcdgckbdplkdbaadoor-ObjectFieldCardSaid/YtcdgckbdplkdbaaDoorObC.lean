/- object.rest and Nodes: how many nodes an object has. -/
import Derived.Test.YtcdgckbdplkdbaaDoorObP
import Derived.Test.YtcdgckbdplkdbaaDoorObB
import Derived.Deep.LoopGhost
namespace Go.Proofs.YtcdgckbdplkdbaaDoor
open Go.RowKit

/-- what rest gives: what is left, or a negative number -/
def RestIs (o : Ob) (left r : Int) : Prop := ((o.nodes : Int) ≤ left → r = left - o.nodes) ∧ (left < o.nodes → r < 0) ∧ r < left ∧ (0 ≤ left → -left - 1 ≤ r) ∧ (left < 0 → r = left - 1)
def RetRest (o : Ob) (left : Int) (w : World) (e : Ending) (w' : World) : Prop := ∃ r : Int, e = .returned (.int .i64 r) ∧ RestIs o left r ∧ Below w.heap.size w w'
theorem rest_end {x : Ob} {m : Int} (h : ¬ (0 < m ∧ x.pair.length = 2)) : RestIs x m (m - 1) := by
  have hp := x.nodes_pos
  refine ⟨fun h1 => ?_, fun h1 => ?_, by omega, fun h1 => by omega, fun _ => rfl⟩
  · have : x.pair.length ≠ 2 := fun e => h ⟨by omega, e⟩
    rw [Ob.nodes_one this]; rfl
  · rcases Int.lt_or_le 0 m with h2 | h2
    · have : x.pair.length ≠ 2 := fun e => h ⟨h2, e⟩
      rw [Ob.nodes_one this] at h1
      omega
    · omega
theorem rest_step {x a d : Ob} {m r1 r : Int} (hx : x.pair = [a, d]) (hm : 0 < m) (h1 : RestIs a (m - 1) r1) (h2 : RestIs d r1 r) : RestIs x m r := by
  have hn := Ob.nodes_two hx
  have pa := a.nodes_pos
  have pd := d.nodes_pos
  obtain ⟨a1, a2, a3, a4, a5⟩ := h1
  obtain ⟨b1, b2, b3, b4, b5⟩ := h2
  have a4' := a4 (by omega)
  refine ⟨fun h => ?_, fun h => ?_, by omega, fun _ => ?_, fun h => by omega⟩
  · have e1 := a1 (by omega)
    have e2 := b1 (by omega)
    omega
  · by_cases h3 : m - 1 < a.nodes
    · have e1 := a2 h3
      have e2 := b5 e1
      omega
    · have e1 := a1 (by omega)
      exact b2 (by omega)
  · by_cases h3 : r1 < 0
    · have := b5 h3; omega
    · have := b4 (by omega); omega
set_option maxHeartbeats 2000000 in
set_option maxRecDepth 100000 in
theorem rest_any (ok : Nat → Prop) : ∀ (N : Nat) (o : Ob), o.size ≤ N → ∀ (A : Option Addr) (n c : Nat) (left : Int) (w : World), Rd ok w (.slice A n c) (.row (o.pair.map Ob.enc)) → -10 ≤ left → left ≤ 3001 →
    Calls Tryd.prog 32 #[objV o (.slice A n c), .int .i64 left] w (RetRest o left w) := by
  intro N
  induction N with
  | zero => intro o h; have := Ob.size_pos o; omega
  | succ N ih =>
    intro o hN A n c left w hP hl0 hl1
    go_enter Tryd.func32, Tryd.ntmps32
    go_wp2
    go_loopg [1] o.size (fun gx lv wr => ∃ (x : Ob) (m : Int) (A2 : Option Addr) (n2 c2 : Nat), lv = .int .i64 m ∧ Hid (BlkIs wr w.heap.size 27 (obCells x (.slice A2 n2 c2))) ∧ Rd ok w (.slice A2 n2 c2) (.row (x.pair.map Ob.enc)) ∧ x.size ≤ N + 1 ∧ -4000 ≤ m ∧ m ≤ 3001 ∧ Hid (∀ r, RestIs x m r → RestIs o left r) ∧ x.size ≤ gx ∧ Below w.heap.size w wr)
    case atStart => exact ⟨o, left, A, n, c, rfl, Lib.hid (BlkIs.new w _ _), hP, hN, by omega, hl1, Lib.hid (fun _ h => h), Nat.le_refl _, box _ _⟩
    case round =>
      obtain ⟨x, m, A2, n2, c2, rfl, HB, hr, hxN, hm0, hm1, HR, hg, hb⟩ := hrel
      obtain ⟨c0, c1, c3, c4, c5, c6, c7, hlt⟩ := HB.out.seven
      obtain ⟨f0, f1, f2, f3, f4, f5, f6⟩ := HB.out.frozen7
      have hlen := hr.len
      rw [List.length_map] at hlen
      by_cases hc : 0 < m ∧ n2 = 2
      · obtain ⟨hmp, hn2⟩ := hc
        subst hn2
        obtain ⟨a, d, had⟩ := Ob.two_of_length hlen
        have HST := Lib.hid (fun r1 r => rest_step (r1 := r1) (r := r) had hmp)
        have hsa := Ob.size_pair (o := x) (x := a) (by rw [had]; simp)
        have hsd := Ob.size_pair (o := x) (x := d) (by rw [had]; simp)
        rw [had] at hr
        clear hlen had
        obtain ⟨b, q, _, A3, n3, c3', rfl, hbl, _, a0, a1, a2, a3, a4, a5, a6, ha⟩ := hr.objs hb (i := 0) (by omega)
        simp only [List.getElem_cons_zero, Nat.zero_mul, Nat.add_zero] at a0 a1 a2 a3 a4 a5 a6 ha
        have hbl' := Nat.lt_of_lt_of_le hbl hb.size
        have HC := Lib.hid (ih a (by omega) A3 n3 c3' (m - 1) wr (ha.under hb) (by omega) (by omega))
        go_wp2_with fail
        refine HC.out.mono ?_
        rintro e w1 ⟨r1, rfl, hr1, hb1⟩
        have hbw1 := then_ hb hb1
        have HB1 := Lib.hid (HB.out.below hb1)
        clear c0 c1 c3 c4 c5 c6 c7 f0 f1 f2 f3 f4 f5 f6 a0 a1 a2 a3 a4 a5 a6
        obtain ⟨c0, c1, c3, c4, c5, c6, c7, hlt1⟩ := HB1.out.seven
        obtain ⟨f0, f1, f2, f3, f4, f5, f6⟩ := HB1.out.frozen7
        obtain ⟨b', q', _, A4, n4, c4', eA, _, _, d0, d1, d2, d3, d4, d5, d6, hd⟩ := hr.objs hbw1 (i := 1) (by omega)
        injection eA with eA
        injection eA with eb eq
        subst eb eq
        simp only [List.getElem_cons_zero, List.getElem_cons_succ, Nat.one_mul] at d0 d1 d2 d3 d4 d5 d6 hd
        have hbl1 := Nat.lt_of_lt_of_le hbl hbw1.size
        have hb4 := hr1.2.2.1
        have hb5 := hr1.2.2.2.1 (by omega)
        have HR1 := Lib.hid hr1
        clear hr1
        go_wp2
        go_roundg d.size
        case measure => omega
        case rel => exact ⟨d, r1, A4, n4, c4', rfl, Lib.hid HB1.out.put7, hd, by omega, by omega, by omega, Lib.hid (fun r h => HR.out r (HST.out r1 r HR1.out h)), Nat.le_refl _, set7 hbw1 (Nat.le_refl _) _ _ _ _ _ _ _⟩
      · have HE : Hid (RestIs o left (m - 1)) := HR.out _ (rest_end (by rw [hlen]; exact hc))
        by_cases hmp : 0 < m
        · have hn2 : ((n2 : Int) == 2) = false := by rw [beq_eq_false_iff_ne]; omega
          clear hlen hc
          go_wp2
          go_ret
          exact ⟨m - 1, rfl, HE.out, hb⟩
        · clear hlen hc
          go_wp2
          go_ret
          exact ⟨m - 1, rfl, HE.out, hb⟩
/-- object.Nodes -/
theorem nodes_of {o : Ob} {r : Int} (h : RestIs o 3001 r) : 3001 - max 0 r = if o.nodes ≤ 3001 then (o.nodes : Int) else 3001 := by
  obtain ⟨h1, h2, h3, _, _⟩ := h
  have := o.nodes_pos
  split
  · have := h1 (by omega); omega
  · have := h2 (by omega); omega
def nodesP (o : Ob) : Int := if o.nodes ≤ 3001 then (o.nodes : Int) else 3001
set_option maxHeartbeats 1000000 in
theorem oNodes_any (ok : Nat → Prop) (o : Ob) (A : Option Addr) (n c : Nat) (w : World) (hP : Rd ok w (.slice A n c) (.row (o.pair.map Ob.enc))) :
    Calls Tryd.prog 16 #[objV o (.slice A n c)] w (RetBel (.int .i64 (nodesP o)) w) := by
  go_enter Tryd.func16, Tryd.ntmps16
  go_wp2_with fail
  refine (rest_any ok o.size o (Nat.le_refl _) A n c 3001 _ (hP.under (box _ _)) (by omega) (by omega)).mono ?_
  rintro e w1 ⟨r, rfl, hr, hb1⟩
  have HN := Lib.hid (nodes_of hr)
  have h1 := hr.2.2.1
  have h2 := hr.2.2.2.1 (by omega)
  clear hr
  by_cases h0 : 0 < r
  · have HM : Hid (3001 - r = nodesP o) := by show _ = _; have := HN.out; unfold nodesP; omega
    go_wp2
    go_ret
    exact ⟨by rw [← HM.out]; rfl, via hb1⟩
  · have HM : Hid (3001 = nodesP o) := by show _ = _; have := HN.out; unfold nodesP; omega
    go_wp2
    go_ret
    exact ⟨by rw [← HM.out]; rfl, via hb1⟩
end Go.Proofs.YtcdgckbdplkdbaaDoor
