/- Chapter 7: PrimitiveConses. -/
import Derived.Test.YtmkcnjfhdfanoaaGreatDoorKN
namespace Go.Proofs.YtmkcnjfhdfanoaaGreatDoor
open Go.RowKit

theorem truT_nilB : decide (truT false = truT true) = false := by decide +kernel
theorem p_PrimitiveConses {r s : Raw} (wr' : r.Wf) (ws : s.Wf) : Puk 10 [rawA r, rawA s] (boA true) := by
  cases hr : fewR r 30 with
  | false => exact pwalk (an := [yT, yF]) (ls := []) (ps := [Puk 12 [] (boA true), Puk 23 [(rawA r), (inA 30)] (boA false)]) Tryz.func10 (by kernel_rfl) (by kernel_rfl) ⟨p_first, (p_Few r 30).b hr, trivial⟩
  | true =>
  cases hs : fewR s 30 with
  | false => exact pwalk (an := [yT, yT, yF]) (ls := []) (ps := [Puk 12 [] (boA true), Puk 23 [(rawA r), (inA 30)] (boA true), Puk 23 [(rawA s), (inA 30)] (boA false)]) Tryz.func10 (by kernel_rfl) (by kernel_rfl) ⟨p_first, (p_Few r 30).b hr, (p_Few s 30).b hs, trivial⟩
  | true =>
  have mr := p_mkO (fewR_fit (by decide) (by decide) hr) wr'
  have ms := p_mkO (fewR_fit (by decide) (by decide) hs) ws
  have hx := Sml.mk' (by decide) (by decide) hr
  have hy := Sml.mk' (by decide) (by decide) hs
  generalize mkT r = x at *
  generalize mkT s = y at *
  have hc : (Tr.cons x y).valid = true := ap_sml hx hy nil_sml 2
  have c1 := p_val2 (i := 2) (s := [99, 111, 110, 115]) rfl hx.v hy.v hc rfl
  have c2 := p_val1 (i := 3) (s := [99, 97, 114]) (t := x) rfl hc (by decide) rfl
  have c3 := p_val1 (i := 4) (s := [99, 100, 114]) (t := y) rfl hc (by decide) rfl
  have c4 := p_val1 (i := 5) (s := [99, 111, 110, 115, 112]) (t := truT true) rfl hc (by decide) rfl
  have c5 := p_val1 (i := 5) (s := [99, 111, 110, 115, 112]) (t := truT x.isC) rfl hx.v (by decide) rfl
  have e1 := p_rEqT hx.v
  have e2 := p_rEqT hy.v
  have e3 := p_rEqT Tr.valid_t
  cases x with
  | cons a d =>
    have va := (Tr.valid_parts hx.v).1
    have vd := (Tr.valid_parts hx.v).2
    have d1 := p_val1 (i := 3) (s := [99, 97, 114]) (t := a) rfl hx.v (by decide) rfl
    have d2 := p_val1 (i := 4) (s := [99, 100, 114]) (t := d) rfl hx.v (by decide) rfl
    have d3 := p_val2 (i := 2) (s := [99, 111, 110, 115]) (t := .cons a d) rfl va vd hx.v rfl
    exact pwalk (an := [yT, yT, yT, .av (trA (.cons a d)), .av (trA y), .av (trA (.cons (.cons a d) y)), .av (trA (.cons a d)), yT, .av (trA y), yT, .av (trA (truT true)), .av (trA (truT true)), yT, .av (trA (truT true)), .av (trA (truT true)), yT, .av (trA a), .av (trA d), .av (trA (.cons a d)), yT]) (ls := []) (ps := [Puk 12 [] (boA true), Puk 23 [(rawA r), (inA 30)] (boA true), Puk 23 [(rawA s), (inA 30)] (boA true), Puk 37 [(rawA r)] (trA (a.cons d)), Puk 37 [(rawA s)] (obA y.ob), Puk 29 [(stA [99, 111, 110, 115]), (.dt (.row [encL (a.cons d).ob, encL y.ob]))] (obA (((a.cons d).cons y).ob)), Puk 29 [(stA [99, 97, 114]), (.dt (.row [encL ((a.cons d).cons y).ob]))] (trA (a.cons d)), Puk 22 [(trA (a.cons d)), (trA (a.cons d))] (boA true), Puk 29 [(stA [99, 100, 114]), (.dt (.row [encL ((a.cons d).cons y).ob]))] (obA y.ob), Puk 22 [(obA y.ob), (obA y.ob)] (boA true), Puk 29 [(stA [99, 111, 110, 115, 112]), (.dt (.row [encL ((a.cons d).cons y).ob]))] (trA (truT true)), Puk 38 [] (trA (truT true)), Puk 22 [(trA (truT true)), (trA (truT true))] (boA true), Puk 29 [(stA [99, 111, 110, 115, 112]), (.dt (.row [encL (a.cons d).ob]))] (trA (truT true)), Puk 38 [] (trA (truT true)), Puk 22 [(trA (truT true)), (trA (truT true))] (boA true), Puk 29 [(stA [99, 97, 114]), (.dt (.row [encL (a.cons d).ob]))] (obA a.ob), Puk 29 [(stA [99, 100, 114]), (.dt (.row [encL (a.cons d).ob]))] (obA d.ob), Puk 29 [(stA [99, 111, 110, 115]), (.dt (.row [encL a.ob, encL d.ob]))] (trA (a.cons d)), Puk 22 [(trA (a.cons d)), (trA (a.cons d))] (boA true)]) Tryz.func10 (by kernel_rfl) (by kernel_rfl)
      ⟨p_first, (p_Few r 30).b hr, (p_Few s 30).b hs, mr, ms, c1, c2, e1, c3, e2, c4, p_rT, e3, c5, p_rT, e3, d1, d2, d3, e1, trivial⟩
  | num q =>
    have d1 := p_val1 (i := 3) (s := [99, 97, 114]) (t := nilT) rfl hx.v (by decide) rfl
    have d2 := p_val1 (i := 4) (s := [99, 100, 114]) (t := nilT) rfl hx.v (by decide) rfl
    exact pwalk (an := [yT, yT, yT, .av (trA (.num q)), .av (trA y), .av (trA (.cons (.num q) y)), .av (trA (.num q)), yT, .av (trA y), yT, .av (trA (truT true)), .av (trA (truT true)), yT, .av (trA (truT false)), .av (trA (truT true)), yF, .av (trA nilT), yT, .av (trA nilT), yT]) (ls := []) (ps := [Puk 12 [] (boA true), Puk 23 [(rawA r), (inA 30)] (boA true), Puk 23 [(rawA s), (inA 30)] (boA true), Puk 37 [(rawA r)] (trA (Tr.num q)), Puk 37 [(rawA s)] (obA y.ob), Puk 29 [(stA [99, 111, 110, 115]), (.dt (.row [encL (Tr.num q).ob, encL y.ob]))] (obA (((Tr.num q).cons y).ob)), Puk 29 [(stA [99, 97, 114]), (.dt (.row [encL ((Tr.num q).cons y).ob]))] (trA (Tr.num q)), Puk 22 [(trA (Tr.num q)), (trA (Tr.num q))] (boA true), Puk 29 [(stA [99, 100, 114]), (.dt (.row [encL ((Tr.num q).cons y).ob]))] (obA y.ob), Puk 22 [(obA y.ob), (obA y.ob)] (boA true), Puk 29 [(stA [99, 111, 110, 115, 112]), (.dt (.row [encL ((Tr.num q).cons y).ob]))] (trA (truT true)), Puk 38 [] (trA (truT true)), Puk 22 [(trA (truT true)), (trA (truT true))] (boA true), Puk 29 [(stA [99, 111, 110, 115, 112]), (.dt (.row [encL (Tr.num q).ob]))] (trA (truT false)), Puk 38 [] (trA (truT true)), Puk 22 [(trA (truT false)), (trA (truT true))] (boA false), Puk 29 [(stA [99, 97, 114]), (.dt (.row [encL (Tr.num q).ob]))] (obA nilT.ob), Puk 39 [(obA nilT.ob)] (boA true), Puk 29 [(stA [99, 100, 114]), (.dt (.row [encL (Tr.num q).ob]))] (obA nilT.ob), Puk 39 [(obA nilT.ob)] (boA true)]) Tryz.func10 (by kernel_rfl) (by kernel_rfl)
      ⟨p_first, (p_Few r 30).b hr, (p_Few s 30).b hs, mr, ms, c1, c2, e1, c3, e2, c4, p_rT, e3, c5, p_rT, (p_rEq (truT true) (truT_ok (k := 4) false) (by decide)).b truT_nilB, d1, (p_rIsNil nilT_ok (k := 4) (by decide)).b (decide_eq_true rfl), d2, (p_rIsNil nilT_ok (k := 4) (by decide)).b (decide_eq_true rfl), trivial⟩
  | txt q =>
    have d1 := p_val1 (i := 3) (s := [99, 97, 114]) (t := nilT) rfl hx.v (by decide) rfl
    have d2 := p_val1 (i := 4) (s := [99, 100, 114]) (t := nilT) rfl hx.v (by decide) rfl
    exact pwalk (an := [yT, yT, yT, .av (trA (.txt q)), .av (trA y), .av (trA (.cons (.txt q) y)), .av (trA (.txt q)), yT, .av (trA y), yT, .av (trA (truT true)), .av (trA (truT true)), yT, .av (trA (truT false)), .av (trA (truT true)), yF, .av (trA nilT), yT, .av (trA nilT), yT]) (ls := []) (ps := [Puk 12 [] (boA true), Puk 23 [(rawA r), (inA 30)] (boA true), Puk 23 [(rawA s), (inA 30)] (boA true), Puk 37 [(rawA r)] (trA (Tr.txt q)), Puk 37 [(rawA s)] (obA y.ob), Puk 29 [(stA [99, 111, 110, 115]), (.dt (.row [encL (Tr.txt q).ob, encL y.ob]))] (obA (((Tr.txt q).cons y).ob)), Puk 29 [(stA [99, 97, 114]), (.dt (.row [encL ((Tr.txt q).cons y).ob]))] (trA (Tr.txt q)), Puk 22 [(trA (Tr.txt q)), (trA (Tr.txt q))] (boA true), Puk 29 [(stA [99, 100, 114]), (.dt (.row [encL ((Tr.txt q).cons y).ob]))] (obA y.ob), Puk 22 [(obA y.ob), (obA y.ob)] (boA true), Puk 29 [(stA [99, 111, 110, 115, 112]), (.dt (.row [encL ((Tr.txt q).cons y).ob]))] (trA (truT true)), Puk 38 [] (trA (truT true)), Puk 22 [(trA (truT true)), (trA (truT true))] (boA true), Puk 29 [(stA [99, 111, 110, 115, 112]), (.dt (.row [encL (Tr.txt q).ob]))] (trA (truT false)), Puk 38 [] (trA (truT true)), Puk 22 [(trA (truT false)), (trA (truT true))] (boA false), Puk 29 [(stA [99, 97, 114]), (.dt (.row [encL (Tr.txt q).ob]))] (obA nilT.ob), Puk 39 [(obA nilT.ob)] (boA true), Puk 29 [(stA [99, 100, 114]), (.dt (.row [encL (Tr.txt q).ob]))] (obA nilT.ob), Puk 39 [(obA nilT.ob)] (boA true)]) Tryz.func10 (by kernel_rfl) (by kernel_rfl)
      ⟨p_first, (p_Few r 30).b hr, (p_Few s 30).b hs, mr, ms, c1, c2, e1, c3, e2, c4, p_rT, e3, c5, p_rT, (p_rEq (truT true) (truT_ok (k := 4) false) (by decide)).b truT_nilB, d1, (p_rIsNil nilT_ok (k := 4) (by decide)).b (decide_eq_true rfl), d2, (p_rIsNil nilT_ok (k := 4) (by decide)).b (decide_eq_true rfl), trivial⟩
  | sym q u =>
    have d1 := p_val1 (i := 3) (s := [99, 97, 114]) (t := nilT) rfl hx.v (by decide) rfl
    have d2 := p_val1 (i := 4) (s := [99, 100, 114]) (t := nilT) rfl hx.v (by decide) rfl
    exact pwalk (an := [yT, yT, yT, .av (trA (.sym q u)), .av (trA y), .av (trA (.cons (.sym q u) y)), .av (trA (.sym q u)), yT, .av (trA y), yT, .av (trA (truT true)), .av (trA (truT true)), yT, .av (trA (truT false)), .av (trA (truT true)), yF, .av (trA nilT), yT, .av (trA nilT), yT]) (ls := []) (ps := [Puk 12 [] (boA true), Puk 23 [(rawA r), (inA 30)] (boA true), Puk 23 [(rawA s), (inA 30)] (boA true), Puk 37 [(rawA r)] (trA (Tr.sym q u)), Puk 37 [(rawA s)] (obA y.ob), Puk 29 [(stA [99, 111, 110, 115]), (.dt (.row [encL (Tr.sym q u).ob, encL y.ob]))] (obA (((Tr.sym q u).cons y).ob)), Puk 29 [(stA [99, 97, 114]), (.dt (.row [encL ((Tr.sym q u).cons y).ob]))] (trA (Tr.sym q u)), Puk 22 [(trA (Tr.sym q u)), (trA (Tr.sym q u))] (boA true), Puk 29 [(stA [99, 100, 114]), (.dt (.row [encL ((Tr.sym q u).cons y).ob]))] (obA y.ob), Puk 22 [(obA y.ob), (obA y.ob)] (boA true), Puk 29 [(stA [99, 111, 110, 115, 112]), (.dt (.row [encL ((Tr.sym q u).cons y).ob]))] (trA (truT true)), Puk 38 [] (trA (truT true)), Puk 22 [(trA (truT true)), (trA (truT true))] (boA true), Puk 29 [(stA [99, 111, 110, 115, 112]), (.dt (.row [encL (Tr.sym q u).ob]))] (trA (truT false)), Puk 38 [] (trA (truT true)), Puk 22 [(trA (truT false)), (trA (truT true))] (boA false), Puk 29 [(stA [99, 97, 114]), (.dt (.row [encL (Tr.sym q u).ob]))] (obA nilT.ob), Puk 39 [(obA nilT.ob)] (boA true), Puk 29 [(stA [99, 100, 114]), (.dt (.row [encL (Tr.sym q u).ob]))] (obA nilT.ob), Puk 39 [(obA nilT.ob)] (boA true)]) Tryz.func10 (by kernel_rfl) (by kernel_rfl)
      ⟨p_first, (p_Few r 30).b hr, (p_Few s 30).b hs, mr, ms, c1, c2, e1, c3, e2, c4, p_rT, e3, c5, p_rT, (p_rEq (truT true) (truT_ok (k := 4) false) (by decide)).b truT_nilB, d1, (p_rIsNil nilT_ok (k := 4) (by decide)).b (decide_eq_true rfl), d2, (p_rIsNil nilT_ok (k := 4) (by decide)).b (decide_eq_true rfl), trivial⟩
theorem conses7_any (W : World) (hG : Gx W)
    (r : Raw) (hr : r.Wf) (A1 : Option Addr) (n1 c1 : Nat) (h1 : Rd (fun _ => True) W (.slice A1 n1 c1) (.row (r.l.map Raw.enc)))
    (s : Raw) (hs : s.Wf) (A2 : Option Addr) (n2 c2 : Nat) (h2 : Rd (fun _ => True) W (.slice A2 n2 c2) (.row (s.l.map Raw.enc))) :
    Says 10 #[rawV r (.slice A1 n1 c1), rawV s (.slice A2 n2 c2)] W :=
  (p_PrimitiveConses hr hs).law (ok := fun _ => True) hG ⟨_, _, rfl, RV.ofRaw h1, _, _, rfl, RV.ofRaw h2, rfl⟩
end Go.Proofs.YtmkcnjfhdfanoaaGreatDoor
