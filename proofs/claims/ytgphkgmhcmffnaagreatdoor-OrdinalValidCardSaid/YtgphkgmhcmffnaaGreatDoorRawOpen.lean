/- Raw trees, lists of them and symbols among the arguments: what they read as. -/
import Derived.Test.YtgphkgmhcmffnaaGreatDoorMkP
import Derived.Lib.SmallJoins
namespace Go.Proofs.YtgphkgmhcmffnaaGreatDoor
open Go.RowKit Go.ChangeShapes Go.WideShapes Go.Deep Go.Joins

section
variable {H : Type} {enc : TypeId × Value → H} {w : World} {base : Nat} {spare : Nat → Bool} {held : Bool}
set_option maxRecDepth 100000 in
theorem open_raw {r : Reach} {b0 : Nat} {v : Value} {d : DataW H} {p : List MemPlace} (hv : Value.okWide Tryz.prog w r b0 41 v) (h : DataW.Trod enc Tryz.prog w base spare held 41 v d p) :
    ∃ (s : Raw) (A : Option Addr) (n c : Nat), v = rawV s (.slice A n c) ∧ s.Wf ∧ Rd (fun _ => True) w (.slice A n c) (.row (s.l.map Raw.enc)) := by
  obtain ⟨cs, rfl, _⟩ := okWide_struct Tryz.underlying41 hv
  obtain ⟨fuel, hf⟩ := h
  have hf' : DataW.trod enc Tryz.prog w base spare held fuel 41 cs.toList = some (d, p) := hf
  obtain ⟨s, hw, hl, hr⟩ := read_raw fuel _ _ hf'
  rw [Raw.enc_len] at hl
  obtain ⟨l⟩ := cs
  match l, hl with
  | [x0, x1, x2, x3], _ =>
    simp only [Raw.enc_eq] at hr
    obtain ⟨u0, e0, r0⟩ := hr 0 (by simp)
    obtain ⟨u1, e1, r1⟩ := hr 1 (by simp)
    obtain ⟨u2, e2, r2⟩ := hr 2 (by simp)
    obtain ⟨u3, e3, r3⟩ := hr 3 (by simp)
    obtain rfl : x0 = u0 := Option.some.inj e0
    obtain rfl : x1 = u1 := Option.some.inj e1
    obtain rfl : x2 = u2 := Option.some.inj e2
    obtain rfl : x3 = u3 := Option.some.inj e3
    obtain rfl := r0.val_eq
    obtain rfl := r1.val_eq
    obtain rfl := r2.val_eq
    obtain ⟨A, n, c, rfl, _⟩ := Rd.slice r3
    exact ⟨s, A, n, c, rfl, hw, r3⟩
set_option maxRecDepth 100000 in
theorem open_raws {r : Reach} {b0 : Nat} {v : Value} {d : DataW H} {p : List MemPlace} (hv : Value.okWide Tryz.prog w r b0 39 v) (h : DataW.Trod enc Tryz.prog w base spare held 39 v d p) :
    ∃ (l : List Raw) (A : Option Addr) (n c : Nat), v = .slice A n c ∧ (∀ s ∈ l, s.Wf) ∧ n ≤ 9223372036854775807 ∧ Rd (fun _ => True) w (.slice A n c) (.row (l.map Raw.enc)) := by
  obtain ⟨a, len, cap, rfl⟩ := okWide_slice Tryz.underlying39 hv
  obtain ⟨fuel, hf⟩ := h
  obtain ⟨A, n, c, l, e, hr, hn, hg⟩ := read_rows Raw.enc Raw.Wf 4 (by omega) Raw.enc_len Tryz.underlying39 cellsRaw hf (fun n'' _ cs' y hy => read_raw n'' cs' y hy)
  simp only [Value.cells, List.cons.injEq, and_true] at e
  unfold maxLen at hn
  exact ⟨l, A, n, c, by simpa using e, hg, hn, hr⟩
theorem oneSymR : oneCellFields Tryz.prog #[⟨"Package", 9, 0, false, "", "", 0⟩, ⟨"Name", 9, 1, false, "", "", 16⟩] = true := by kernel_rfl
theorem cellsSymR : Tryz.prog.cellsOf 28 = 2 := by kernel_rfl
set_option maxRecDepth 100000 in
theorem open_symR {r : Reach} {b0 : Nat} {v : Value} {d : DataW H} {p : List MemPlace} (hv : Value.okWide Tryz.prog w r b0 28 v) (h : DataW.Trod enc Tryz.prog w base spare held 28 v d p) : ∃ x y : List UInt8, v = .agg #[str x, str y] ∧ x.length ≤ 9223372036854775807 ∧ y.length ≤ 9223372036854775807 := by
  obtain ⟨v0, v1, y0, y1, n, rfl, _, _, t0, t1⟩ := open_agg2 Tryz.underlying28 oneSymR cellsSymR hv h
  obtain ⟨s0, e0, _, z0⟩ := DataW.trod_string Tryz.underlying9 t0
  obtain ⟨s1, e1, _, z1⟩ := DataW.trod_string Tryz.underlying9 t1
  injection e0 with e0
  injection e1 with e1
  exact ⟨s0.data.toList, s1.data.toList, by rw [e0, e1, str_bytes, str_bytes], bytes_le z0, bytes_le z1⟩
end
end Go.Proofs.YtgphkgmhcmffnaaGreatDoor
