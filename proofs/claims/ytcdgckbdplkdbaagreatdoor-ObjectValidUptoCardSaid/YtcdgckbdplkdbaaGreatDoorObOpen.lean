/- Objects among the arguments: what they read as, and that a small reading has short strings. -/
import Derived.Test.YtcdgckbdplkdbaaGreatDoorRows
import Derived.Test.YtcdgckbdplkdbaaGreatDoorFm
namespace Go.Proofs.YtcdgckbdplkdbaaGreatDoor
open Go.RowKit Go.ChangeShapes Go.WideShapes Go.Deep

theorem bulk_part {H : Type} {d : DataW H} {l : List (DataW H)} (h : d ∈ l) : Rows.uptoBulk d ≤ Rows.uptoBulkAll l := by
  induction l with
  | nil => cases h
  | cons x r ih =>
    simp only [Rows.uptoBulkAll]
    cases List.mem_cons.1 h with
    | inl e => subst e; omega
    | inr e => have := ih e; omega
section
variable {H : Type} {enc : TypeId × Value → H} {P : Program} {w : World} {base : Nat} {spare : Nat → Bool} {held : Bool}
theorem read_rowsB {α : Type} (encA : α → List Dt) (R : α → DataW H → Prop) (k : Nat) (hk : 0 < k) (hlen : ∀ a, (encA a).length = k) {t e : TypeId} {fuel : Nat} {cs : List Value} {x : DataW H × List MemPlace}
    (ht : P.underlying t = some (.slice e)) (hc : P.cellsOf e = k) (h : DataW.trod enc P w base spare held fuel t cs = some x)
    (elem : ∀ n, fuel = n + 1 → ∀ cs' y, DataW.trod enc P w base spare held n e cs' = some y → ∃ a, R a y.1 ∧ Reads w cs' (encA a)) :
    ∃ (A : Option Addr) (n c : Nat) (l : List α), cs = [.slice A n c] ∧ Rd (fun _ => True) w (.slice A n c) (.row (l.map encA)) ∧ n ≤ maxLen ∧ ∀ a ∈ l, ∃ d, R a d ∧ Rows.uptoBulk d ≤ Rows.uptoBulk x.1 := by
  rcases DataW.trod_slice ht h with ⟨rfl, _⟩ | ⟨a, len, cap, elems, rest, n, hfu, rfl, hxe, hb, hl, hm, hel, hx, _, _⟩
  · exact ⟨none, 0, 0, [], rfl, .nil _ _, Nat.zero_le _, fun s hs => by cases hs⟩
  · rw [hc] at hx
    have hbk : ∀ i (hi : i < elems.length), Rows.uptoBulk (elems[i]).1 ≤ Rows.uptoBulk x.1 := by
      intro i hi
      have h1 : (elems[i]).1 ∈ elems.map (·.1) := List.mem_map.2 ⟨elems[i], List.getElem_mem hi, rfl⟩
      have h2 := bulk_part h1
      rw [hxe]
      simp only [Rows.uptoBulk]
      omega
    have he : ∀ i, i < len → ∃ y : α, (∃ d, R y d ∧ Rows.uptoBulk d ≤ Rows.uptoBulk x.1) ∧ ∀ j (hj : j < (encA y).length), ∃ u, w.cell? (a.add (i * k + j)) = some u ∧ Rd (fun _ => True) w u (encA y)[j] := by
      intro i hi
      have h1 := hx i hi
      rw [List.getElem?_eq_getElem (by omega)] at h1
      obtain ⟨cs', h2, h3⟩ := Option.bind_eq_some_iff.1 h1
      obtain ⟨y, hg, hr⟩ := elem n hfu cs' _ h3
      refine ⟨y, ⟨_, hg, hbk i (by omega)⟩, fun j hj => ?_⟩
      obtain ⟨u, h4, h5⟩ := hr.2 j hj
      obtain ⟨_, hcl, hat⟩ := World.cells?_some h2
      have hjk : j < k := by rw [← hlen y]; exact hj
      have := hat j hjk
      rw [Go.Deep.add_add] at this
      exact ⟨u, by rw [this, h4], h5⟩
    rcases Nat.eq_zero_or_pos len with e0 | e0
    · subst e0
      exact ⟨some a, 0, cap, [], rfl, .nil _ _, Nat.zero_le _, fun s hs => by cases hs⟩
    · obtain ⟨y0, _, _⟩ := he 0 e0
      have hch : ∃ f : Nat → α, ∀ i, i < len → (∃ d, R (f i) d ∧ Rows.uptoBulk d ≤ Rows.uptoBulk x.1) ∧ ∀ j (hj : j < (encA (f i)).length), ∃ u, w.cell? (a.add (i * k + j)) = some u ∧ Rd (fun _ => True) w u (encA (f i))[j] := by
        refine ⟨fun i => if h : i < len then Classical.choose (he i h) else y0, fun i hi => ?_⟩
        simp only [hi, dif_pos]
        exact Classical.choose_spec (he i hi)
      obtain ⟨f, hf⟩ := hch
      obtain ⟨u0, h00, _⟩ := (hf 0 e0).2 0 (by rw [hlen]; exact hk)
      have h00' : w.cell? (a.add 0) = some u0 := by simpa using h00
      have hadd : ∀ q, a.add q = ⟨a.block, a.off + q, none⟩ := fun q => addPlain h00'
      have ha : a = ⟨a.block, a.off, none⟩ := by
        have := hadd 0
        simpa [Addr.add] using this
      refine ⟨some a, len, cap, (List.range len).map f, rfl, ?_, Nat.le_trans hl hm, ?_⟩
      · rw [ha]
        refine Rd.mk (k := k) (by simp) hl (World.block_lt_of_cell? _ _ h00' |> fun h => by simpa [hadd] using h) trivial (fun i hi => ?_) (fun i j hi hj => ?_)
        · rw [List.getElem_map]; exact hlen _
        · have hi' : i < len := by simpa using hi
          simp only [List.getElem_map, List.getElem_range] at hj ⊢
          obtain ⟨u, g0, g1⟩ := (hf i hi').2 j hj
          rw [hadd] at g0
          exact ⟨u, by rw [← g0, Nat.add_assoc], g1⟩
      · intro s hs
        obtain ⟨i, hi, rfl⟩ := List.mem_map.1 hs
        exact (hf i (List.mem_range.1 hi)).1
end
section
variable {H : Type} {enc : TypeId × Value → H} {w : World} {base : Nat} {spare : Nat → Bool} {held : Bool}
theorem cellsOb : Tryz.prog.cellsOf 26 = 7 := by kernel_rfl
theorem cellsSy : Tryz.prog.cellsOf 23 = 2 := by kernel_rfl
theorem cellsIn : Tryz.prog.cellsOf 3 = 1 := by kernel_rfl
theorem cellsSt : Tryz.prog.cellsOf 9 = 1 := by kernel_rfl
theorem cellsOs : Tryz.prog.cellsOf 24 = 1 := by kernel_rfl
def ObR (o : Ob) (d : DataW H) : Prop := o.Wf ∧ (Rows.uptoBulk d ≤ 1048576 → o.Sm)
set_option maxRecDepth 100000 in
theorem read_sym {fuel : Nat} {c0 c1 : Value} {x : DataW H × List MemPlace} (h : DataW.trod enc Tryz.prog w base spare held fuel 23 [c0, c1] = some x) : ∃ p s : List UInt8, c0 = str p ∧ c1 = str s ∧ p.length ≤ 9223372036854775807 ∧ s.length ≤ 9223372036854775807 := by
  obtain ⟨xs, n, _, _, hlen, hxl, hf⟩ := DataW.trod_struct Tryz.underlying23 h
  have f0 : DataW.trod enc Tryz.prog w base spare held n 9 (List.take (Tryz.prog.cellsOf 9) (List.drop 0 [c0, c1])) = xs[0]? := hf 0 _ rfl
  have f1 : DataW.trod enc Tryz.prog w base spare held n 9 (List.take (Tryz.prog.cellsOf 9) (List.drop 1 [c0, c1])) = xs[1]? := hf 1 _ rfl
  rw [cellsSt] at f0 f1
  match xs, hxl with
  | [y0, y1], _ =>
    replace f0 : DataW.trod enc Tryz.prog w base spare held n 9 [c0] = some y0 := f0
    replace f1 : DataW.trod enc Tryz.prog w base spare held n 9 [c1] = some y1 := f1
    obtain ⟨s0, e0, _, z0⟩ := DataW.trod_string Tryz.underlying9 f0
    obtain ⟨s1, e1, _, z1⟩ := DataW.trod_string Tryz.underlying9 f1
    injection e0 with e0
    injection e1 with e1
    exact ⟨s0.data.toList, s1.data.toList, by rw [e0, str_bytes], by rw [e1, str_bytes], bytes_le z0, bytes_le z1⟩
set_option maxRecDepth 100000 in
theorem read_obj : ∀ (fuel : Nat) (cs : List Value) (x : DataW H × List MemPlace), DataW.trod enc Tryz.prog w base spare held fuel 26 cs = some x → ∃ o : Ob, ObR o x.1 ∧ Reads w cs o.enc := by
  intro fuel
  induction fuel using Nat.strongRecOn with
  | _ fuel ih =>
    intro cs x h
    obtain ⟨xs, n, hfu, hxx, hlen, hxl, hf⟩ := DataW.trod_struct Tryz.underlying26 h
    rw [cellsOb] at hlen
    match cs, hlen with
    | [c0, c1, c2, c3, c4, c5, c6], _ =>
      have f0 : DataW.trod enc Tryz.prog w base spare held n 3 (List.take (Tryz.prog.cellsOf 3) (List.drop 0 [c0, c1, c2, c3, c4, c5, c6])) = xs[0]? := hf 0 _ rfl
      have f1 : DataW.trod enc Tryz.prog w base spare held n 9 (List.take (Tryz.prog.cellsOf 9) (List.drop 1 [c0, c1, c2, c3, c4, c5, c6])) = xs[1]? := hf 1 _ rfl
      have f2 : DataW.trod enc Tryz.prog w base spare held n 9 (List.take (Tryz.prog.cellsOf 9) (List.drop 2 [c0, c1, c2, c3, c4, c5, c6])) = xs[2]? := hf 2 _ rfl
      have f3 : DataW.trod enc Tryz.prog w base spare held n 23 (List.take (Tryz.prog.cellsOf 23) (List.drop 3 [c0, c1, c2, c3, c4, c5, c6])) = xs[3]? := hf 3 _ rfl
      have f4 : DataW.trod enc Tryz.prog w base spare held n 9 (List.take (Tryz.prog.cellsOf 9) (List.drop 5 [c0, c1, c2, c3, c4, c5, c6])) = xs[4]? := hf 4 _ rfl
      have f5 : DataW.trod enc Tryz.prog w base spare held n 24 (List.take (Tryz.prog.cellsOf 24) (List.drop 6 [c0, c1, c2, c3, c4, c5, c6])) = xs[5]? := hf 5 _ rfl
      rw [cellsIn] at f0
      rw [cellsSt] at f1 f2 f4
      rw [cellsSy] at f3
      rw [cellsOs] at f5
      match xs, hxl with
      | [y0, y1, y2, y3, y4, y5], _ =>
        replace f0 : DataW.trod enc Tryz.prog w base spare held n 3 [c0] = some y0 := f0
        replace f1 : DataW.trod enc Tryz.prog w base spare held n 9 [c1] = some y1 := f1
        replace f2 : DataW.trod enc Tryz.prog w base spare held n 9 [c2] = some y2 := f2
        replace f3 : DataW.trod enc Tryz.prog w base spare held n 23 [c3, c4] = some y3 := f3
        replace f4 : DataW.trod enc Tryz.prog w base spare held n 9 [c5] = some y4 := f4
        replace f5 : DataW.trod enc Tryz.prog w base spare held n 24 [c6] = some y5 := f5
        obtain ⟨k, e0, _, w0⟩ := DataW.trod_int Tryz.underlying3 f0
        obtain ⟨s1, e1, q1, w1⟩ := DataW.trod_string Tryz.underlying9 f1
        obtain ⟨s2, e2, q2, w2⟩ := DataW.trod_string Tryz.underlying9 f2
        obtain ⟨sp, sn, e3, e4, w3, w4⟩ := read_sym f3
        obtain ⟨s5, e5, _, w5⟩ := DataW.trod_string Tryz.underlying9 f4
        obtain ⟨A, n', c', l, e6, hr, hn, hg⟩ := read_rowsB Ob.enc ObR 7 (by omega) Ob.enc_len Tryz.underlying24 cellsOb f5 (fun n'' hn'' cs' y hy => ih n'' (by omega) cs' y hy)
        injection e0 with e0
        injection e1 with e1
        injection e2 with e2
        injection e5 with e5
        injection e6 with e6
        have b0 := bounds_i64 w0
        have hll : l.length = n' := by have := hr.len; rwa [List.length_map] at this
        have hbk : Rows.uptoBulk x.1 = Rows.uptoBulk y0.1 + (Rows.uptoBulk y1.1 + (Rows.uptoBulk y2.1 + (Rows.uptoBulk y3.1 + (Rows.uptoBulk y4.1 + Rows.uptoBulk y5.1)))) + 1 := by
          rw [hxx]
          simp only [Rows.uptoBulk, List.map_cons, List.map_nil, Rows.uptoBulkAll, Nat.add_zero]
        have hq1 : Rows.uptoBulk y1.1 = s1.data.toList.length + 1 := by rw [q1]; simp [Rows.uptoBulk]
        have hq2 : Rows.uptoBulk y2.1 = s2.data.toList.length + 1 := by rw [q2]; simp [Rows.uptoBulk]
        refine ⟨⟨k, s1.data.toList, s2.data.toList, sp, sn, s5.data.toList, l⟩, ⟨.mk _ b0.1 b0.2 (bytes_le w1) (bytes_le w2) w3 w4 (bytes_le w5) (by show l.length ≤ _; rw [hll]; unfold maxLen at hn; exact hn) (fun a ha => ?_), fun hB => .mk _ ?_ ?_ (fun a ha => ?_)⟩, by rw [Ob.enc_len]; rfl, fun j hj => ?_⟩
        · obtain ⟨_, h1, _⟩ := hg a ha
          exact h1.1
        · show s1.data.toList.length ≤ 1100000
          omega
        · show s2.data.toList.length ≤ 1100000
          omega
        · obtain ⟨d', h1, h2⟩ := hg a ha
          exact h1.2 (by omega)
        · simp only [Ob.enc_eq]
          rw [Ob.enc_len] at hj
          rcases j with _ | _ | _ | _ | _ | _ | _ | j
          · exact ⟨c0, rfl, by rw [e0]; exact .val _⟩
          · exact ⟨c1, rfl, by rw [e1, str_bytes]; exact .val _⟩
          · exact ⟨c2, rfl, by rw [e2, str_bytes]; exact .val _⟩
          · exact ⟨c3, rfl, by rw [e3]; exact .val _⟩
          · exact ⟨c4, rfl, by rw [e4]; exact .val _⟩
          · exact ⟨c5, rfl, by rw [e5, str_bytes]; exact .val _⟩
          · exact ⟨c6, rfl, by rw [e6]; exact hr⟩
          · omega
set_option maxRecDepth 100000 in
theorem open_obj {r : Reach} {b0 : Nat} {v : Value} {d : DataW H} {p : List MemPlace} (hv : Value.okWide Tryz.prog w r b0 26 v) (h : DataW.Trod enc Tryz.prog w base spare held 26 v d p) :
    ∃ (o : Ob) (A : Option Addr) (n c : Nat), v = objV o (.slice A n c) ∧ ObR o d ∧ Rd (fun _ => True) w (.slice A n c) (.row (o.pair.map Ob.enc)) := by
  obtain ⟨cs, rfl, _⟩ := okWide_struct Tryz.underlying26 hv
  obtain ⟨fuel, hf⟩ := h
  have hf' : DataW.trod enc Tryz.prog w base spare held fuel 26 cs.toList = some (d, p) := hf
  obtain ⟨o, hw, hl, hr⟩ := read_obj fuel _ _ hf'
  rw [Ob.enc_len] at hl
  obtain ⟨l⟩ := cs
  match l, hl with
  | [x0, x1, x2, x3, x4, x5, x6], _ =>
    simp only [Ob.enc_eq] at hr
    obtain ⟨u0, e0, r0⟩ := hr 0 (by simp)
    obtain ⟨u1, e1, r1⟩ := hr 1 (by simp)
    obtain ⟨u2, e2, r2⟩ := hr 2 (by simp)
    obtain ⟨u3, e3, r3⟩ := hr 3 (by simp)
    obtain ⟨u4, e4, r4⟩ := hr 4 (by simp)
    obtain ⟨u5, e5, r5⟩ := hr 5 (by simp)
    obtain ⟨u6, e6, r6⟩ := hr 6 (by simp)
    obtain rfl : x0 = u0 := Option.some.inj e0
    obtain rfl : x1 = u1 := Option.some.inj e1
    obtain rfl : x2 = u2 := Option.some.inj e2
    obtain rfl : x3 = u3 := Option.some.inj e3
    obtain rfl : x4 = u4 := Option.some.inj e4
    obtain rfl : x5 = u5 := Option.some.inj e5
    obtain rfl : x6 = u6 := Option.some.inj e6
    obtain rfl := r0.val_eq
    obtain rfl := r1.val_eq
    obtain rfl := r2.val_eq
    obtain rfl := r3.val_eq
    obtain rfl := r4.val_eq
    obtain rfl := r5.val_eq
    obtain ⟨A, n, c, rfl, _⟩ := Rd.slice r6
    exact ⟨o, A, n, c, rfl, hw, r6⟩
end
end Go.Proofs.YtcdgckbdplkdbaaGreatDoor
