/- Chapter 7: PrimitiveClosed. -/
import Derived.Test.YtmkcnjfhdfanoaaGreatDoorKN
import Derived.Test.YtmkcnjfhdfanoaaGreatDoorKO
namespace Go.Proofs.YtmkcnjfhdfanoaaGreatDoor
open Go.RowKit

theorem p_PrimitiveClosed {n : Int} {r s t : Raw} (wr' : r.Wf) (ws : s.Wf) (wt : t.Wf) : Puk 9 [inA n, rawA r, rawA s, rawA t] (boA true) := by
  cases hr : fewR r 20 with
  | false => exact pwalk (an := [yT, yF]) (ls := []) (ps := [Puk 12 [] (boA true), Puk 23 [(rawA r), (inA 20)] (boA false)]) Tryz.func9 (by kernel_rfl) (by kernel_rfl) ⟨p_first, (p_Few r 20).b hr, trivial⟩
  | true =>
  cases hs : fewR s 20 with
  | false => exact pwalk (an := [yT, yT, yF]) (ls := []) (ps := [Puk 12 [] (boA true), Puk 23 [(rawA r), (inA 20)] (boA true), Puk 23 [(rawA s), (inA 20)] (boA false)]) Tryz.func9 (by kernel_rfl) (by kernel_rfl) ⟨p_first, (p_Few r 20).b hr, (p_Few s 20).b hs, trivial⟩
  | true =>
  cases ht : fewR t 20 with
  | false => exact pwalk (an := [yT, yT, yT, yF]) (ls := []) (ps := [Puk 12 [] (boA true), Puk 23 [(rawA r), (inA 20)] (boA true), Puk 23 [(rawA s), (inA 20)] (boA true), Puk 23 [(rawA t), (inA 20)] (boA false)]) Tryz.func9 (by kernel_rfl) (by kernel_rfl) ⟨p_first, (p_Few r 20).b hr, (p_Few s 20).b hs, (p_Few t 20).b ht, trivial⟩
  | true =>
  have hm := p_mkO3 hr hs ht wr' ws wt
  have h3 := three (P := Sml) (Sml.mk' (by decide) (by decide) hr) (Sml.mk' (by decide) (by decide) hs) (Sml.mk' (by decide) (by decide) ht)
  have hsm : ∀ u ∈ [mkT r, mkT s, mkT t].take (pickN n).2, Sml u := fun u hu => h3 u (List.mem_of_mem_take hu)
  have hk := ar_le n
  have hlen : ([mkT r, mkT s, mkT t].take (pickN n).2).length = (pickN n).2 := by rw [List.length_take]; exact Nat.min_eq_left hk
  have hv : (Tr.apL (n % 25).toNat ([mkT r, mkT s, mkT t].take (pickN n).2)).valid = true := ap_sml (getD_sml hsm 0) (getD_sml hsm 1) (getD_sml hsm 2) _
  have h1 := (p_oAp (s := (pickN n).1) (a := (pickN n).2) (pick_get n) (fun u hu => (hsm u hu).v) hlen).r (kept_t hv)
  have h2 := (p_rValid (Tr.valid_arg hv).ok (by decide)).b hv
  generalize Tr.apL (n % 25).toNat ([mkT r, mkT s, mkT t].take (pickN n).2) = o at *
  exact pwalk (an := [yT, yT, yT, yT, .av (syA lispB (pickN n).1), .av (.tup [inA ((pickN n).2 : Int), boA true]), .av (syA lispB (pickN n).1), .av (rowA [mkT r, mkT s, mkT t]), .av (rowA ([mkT r, mkT s, mkT t].take (pickN n).2)), .av (.tup [trA o, inA 0]), yT, yT]) (ls := []) (ps := [Puk 12 [] (boA true), Puk 23 [(rawA r), (inA 20)] (boA true), Puk 23 [(rawA s), (inA 20)] (boA true), Puk 23 [(rawA t), (inA 20)] (boA true), Puk 17 [(inA n)] (syA lispB (pickN n).fst), Puk 16 [(syA lispB (pickN n).fst)] (.tup [(inA (↑(pickN n).snd)), (boA true)]), Puk 17 [(inA n)] (syA lispB (pickN n).fst), Puk 19 [(.dt (.row [encR r, encR s, encR t]))] (.dt (.row (List.map (fun t => encL t.ob) [mkT r, mkT s, mkT t]))), SlcOK (List.map (fun t => encL t.ob) [mkT r, mkT s, mkT t]) 7 (none.getD 0) ((some ↑(pickN n).snd).getD ↑(List.map (fun t => encL t.ob) [mkT r, mkT s, mkT t]).length) (List.map (fun t => encL t.ob) (List.take (pickN n).snd [mkT r, mkT s, mkT t])), (none : Option Int) = none ∨ (none : Option Int) = some ↑(pickN n).snd, Puk 20 [(syA lispB (pickN n).fst), (.dt (.row (List.map (fun t => encL t.ob) (List.take (pickN n).snd [mkT r, mkT s, mkT t]))))] (.tup [(obA o.ob), (inA 0)]), Bn .eql 37 (.tmp 47) (.const (vi 0)) (vi 0) (vi 0) bT, Puk 28 [(obA o.ob)] (boA true)]) Tryz.func9 (by kernel_rfl) (by kernel_rfl)
    ⟨p_first, (p_Few r 20).b hr, (p_Few s 20).b hs, (p_Few t 20).b ht, p_pick n, (ari_pick n).2, p_pick n, hm, slc3 hk (by rw [List.map_take]), .inl rfl, h1, bin_ieq (decide_eq_true rfl), h2, trivial⟩
theorem closed7_any (W : World) (hG : Gx W) (n : Int) (_ : -9223372036854775808 ≤ n) (_ : n ≤ 9223372036854775807)
    (r : Raw) (hr : r.Wf) (A1 : Option Addr) (n1 c1 : Nat) (h1 : Rd (fun _ => True) W (.slice A1 n1 c1) (.row (r.l.map Raw.enc)))
    (s : Raw) (hs : s.Wf) (A2 : Option Addr) (n2 c2 : Nat) (h2 : Rd (fun _ => True) W (.slice A2 n2 c2) (.row (s.l.map Raw.enc)))
    (t : Raw) (ht : t.Wf) (A3 : Option Addr) (n3 c3 : Nat) (h3 : Rd (fun _ => True) W (.slice A3 n3 c3) (.row (t.l.map Raw.enc))) :
    Says 9 #[.int .i64 n, rawV r (.slice A1 n1 c1), rawV s (.slice A2 n2 c2), rawV t (.slice A3 n3 c3)] W :=
  (p_PrimitiveClosed (n := n) hr hs ht).law (ok := fun _ => True) hG ⟨_, _, rfl, .val _, _, _, rfl, RV.ofRaw h1, _, _, rfl, RV.ofRaw h2, _, _, rfl, RV.ofRaw h3, rfl⟩
end Go.Proofs.YtmkcnjfhdfanoaaGreatDoor
