/- Chapter 7: PrimitiveFits. -/
import Derived.Test.YtmkcnjfhdfanoaaGreatDoorKN
import Derived.Test.YtmkcnjfhdfanoaaGreatDoorKSp
import Derived.Test.YtmkcnjfhdfanoaaGreatDoorKO
namespace Go.Proofs.YtmkcnjfhdfanoaaGreatDoor
open Go.RowKit

theorem p_PrimitiveFits {n : Int} {r s t : Raw} (wr' : r.Wf) (ws : s.Wf) (wt : t.Wf) : Puk 5 [inA n, rawA r, rawA s, rawA t] (boA true) := by
  cases hr : fewR r 20 with
  | false => exact pwalk (an := [yT, yF]) (ls := []) (ps := [Puk 12 [] (boA true), Puk 23 [(rawA r), (inA 20)] (boA false)]) Tryz.func5 (by kernel_rfl) (by kernel_rfl) ⟨p_first, (p_Few r 20).b hr, trivial⟩
  | true =>
  cases hs : fewR s 20 with
  | false => exact pwalk (an := [yT, yT, yF]) (ls := []) (ps := [Puk 12 [] (boA true), Puk 23 [(rawA r), (inA 20)] (boA true), Puk 23 [(rawA s), (inA 20)] (boA false)]) Tryz.func5 (by kernel_rfl) (by kernel_rfl) ⟨p_first, (p_Few r 20).b hr, (p_Few s 20).b hs, trivial⟩
  | true =>
  cases ht : fewR t 20 with
  | false => exact pwalk (an := [yT, yT, yT, yF]) (ls := []) (ps := [Puk 12 [] (boA true), Puk 23 [(rawA r), (inA 20)] (boA true), Puk 23 [(rawA s), (inA 20)] (boA true), Puk 23 [(rawA t), (inA 20)] (boA false)]) Tryz.func5 (by kernel_rfl) (by kernel_rfl) ⟨p_first, (p_Few r 20).b hr, (p_Few s 20).b hs, (p_Few t 20).b ht, trivial⟩
  | true =>
  have hm := p_mkO3 hr hs ht wr' ws wt
  have hv := take_valid (pickN n).2 (three (P := fun t => t.valid = true) (mkT_valid (m := 20) (by decide) (by decide) hr) (mkT_valid (m := 20) (by decide) (by decide) hs) (mkT_valid (m := 20) (by decide) (by decide) ht))
  obtain ⟨o, e, ho, h1, h2⟩ := p_ap lispB (pickN n).1 hv
  obtain ⟨b, g1, g2⟩ := p_gd lispB (pickN n).1 hv
  have hk := ar_le n
  exact pwalk (an := [yT, yT, yT, yT, .av (syA lispB (pickN n).1), .av (.tup [inA ((pickN n).2 : Int), boA true]), .av (rowA [mkT r, mkT s, mkT t]), .av (rowA ([mkT r, mkT s, mkT t].take (pickN n).2)), .av (syA lispB (pickN n).1), .av (.tup [obA o, inA e]), .av (syA lispB (pickN n).1), .av (.tup [obA o, inA e]), yT, yT, .av (syA lispB (pickN n).1), .av (boA b), .av (syA lispB (pickN n).1), .av (boA b), yT]) (ls := []) (ps := [Puk 12 [] (boA true), Puk 23 [(rawA r), (inA 20)] (boA true), Puk 23 [(rawA s), (inA 20)] (boA true), Puk 23 [(rawA t), (inA 20)] (boA true), Puk 17 [(inA n)] (syA lispB (pickN n).fst), Puk 16 [(syA lispB (pickN n).fst)] (.tup [(inA (↑(pickN n).snd)), (boA true)]), Puk 19 [(.dt (.row [encR r, encR s, encR t]))] (.dt (.row (List.map (fun t => encL t.ob) [mkT r, mkT s, mkT t]))), SlcOK (List.map (fun t => encL t.ob) [mkT r, mkT s, mkT t]) 7 (none.getD 0) ((some ↑(pickN n).snd).getD ↑(List.map (fun t => encL t.ob) [mkT r, mkT s, mkT t]).length) (List.map (fun t => encL t.ob) (List.take (pickN n).snd [mkT r, mkT s, mkT t])), (none : Option Int) = none ∨ (none : Option Int) = some ↑(pickN n).snd, Puk 17 [(inA n)] (syA lispB (pickN n).fst), Puk 20 [(syA lispB (pickN n).fst), (.dt (.row (List.map (fun t => encL t.ob) (List.take (pickN n).snd [mkT r, mkT s, mkT t]))))] (.tup [(obA o), (inA e)]), Puk 17 [(inA n)] (syA lispB (pickN n).fst), Puk 21 [(syA lispB (pickN n).fst), (.dt (.row (List.map (fun t => encL t.ob) (List.take (pickN n).snd [mkT r, mkT s, mkT t]))))] (.tup [(obA o), (inA e)]), Bn .eql 37 (.tmp 58) (.tmp 59) (vi e) (vi e) bT, Puk 22 [(obA o), (obA o)] (boA true), Puk 17 [(inA n)] (syA lispB (pickN n).fst), Puk 24 [(syA lispB (pickN n).fst), (.dt (.row (List.map (fun t => encL t.ob) (List.take (pickN n).snd [mkT r, mkT s, mkT t]))))] (boA b), Puk 17 [(inA n)] (syA lispB (pickN n).fst), Puk 25 [(syA lispB (pickN n).fst), (.dt (.row (List.map (fun t => encL t.ob) (List.take (pickN n).snd [mkT r, mkT s, mkT t]))))] (boA b), Bn .eql 4 (.tmp 70) (.tmp 74) (Value.bool b) (Value.bool b) bT]) Tryz.func5 (by kernel_rfl) (by kernel_rfl)
    ⟨p_first, (p_Few r 20).b hr, (p_Few s 20).b hs, (p_Few t 20).b ht, p_pick n, (ari_pick n).2, hm, slc3 hk (by rw [List.map_take]), .inl rfl, p_pick n, h1, p_pick n, h2, bin_ieq (decide_eq_true rfl), p_rEqR o (ob_wf ho), p_pick n, g1, p_pick n, g2, bin_beq Tryz.underlying4 (beqT b), trivial⟩
theorem fits7_any (W : World) (hG : Gx W) (n : Int) (_ : -9223372036854775808 ≤ n) (_ : n ≤ 9223372036854775807)
    (r : Raw) (hr : r.Wf) (A1 : Option Addr) (n1 c1 : Nat) (h1 : Rd (fun _ => True) W (.slice A1 n1 c1) (.row (r.l.map Raw.enc)))
    (s : Raw) (hs : s.Wf) (A2 : Option Addr) (n2 c2 : Nat) (h2 : Rd (fun _ => True) W (.slice A2 n2 c2) (.row (s.l.map Raw.enc)))
    (t : Raw) (ht : t.Wf) (A3 : Option Addr) (n3 c3 : Nat) (h3 : Rd (fun _ => True) W (.slice A3 n3 c3) (.row (t.l.map Raw.enc))) :
    Says 5 #[.int .i64 n, rawV r (.slice A1 n1 c1), rawV s (.slice A2 n2 c2), rawV t (.slice A3 n3 c3)] W :=
  (p_PrimitiveFits (n := n) hr hs ht).law (ok := fun _ => True) hG ⟨_, _, rfl, .val _, _, _, rfl, RV.ofRaw h1, _, _, rfl, RV.ofRaw h2, _, _, rfl, RV.ofRaw h3, rfl⟩
end Go.Proofs.YtmkcnjfhdfanoaaGreatDoor
