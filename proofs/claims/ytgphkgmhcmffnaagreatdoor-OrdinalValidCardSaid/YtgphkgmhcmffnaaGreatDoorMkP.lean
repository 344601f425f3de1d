/- The maker's objects as plain trees. -/
import Derived.Test.YtgphkgmhcmffnaaGreatDoorTr
import Derived.Test.YtgphkgmhcmffnaaGreatDoorJP
namespace Go.Proofs.YtgphkgmhcmffnaaGreatDoor
open Go.RowKit

abbrev userB : List UInt8 := [117, 115, 101, 114]
/-- the names of lispprovermake.Sym -/
def symNames : List (List UInt8) := [[97], [98], [102, 111, 111], [111, 100, 100, 32, 110, 97, 109, 101], [49], [120, 124, 121], [46], [45, 50, 47, 51], [35]]
def symTab : List (List UInt8 × List UInt8) := symNames.map (fun s => (userB, s)) ++ [(lispB, nilB), (lispB, [116]), (lispB, [99, 97, 114]), (lispB, [113, 117, 111, 116, 101])]
def symP (n : Int) : List UInt8 × List UInt8 := symTab.getD (n % 13).toNat (userB, [])
theorem symP_len (n : Int) : (symP n).1.length ≤ 12 ∧ (symP n).2.length ≤ 12 := by
  have h : ∀ x ∈ symTab, x.1.length ≤ 12 ∧ x.2.length ≤ 12 := by decide
  have hlt : (n % 13).toNat < symTab.length := by show (n % 13).toNat < 13; omega
  unfold symP
  rw [List.getD_eq_getElem?_getD, List.getElem?_eq_getElem hlt]
  exact h _ (List.getElem_mem hlt)
def zeroT : Tr := .num ((-1000 : Int) : Rat)
def mkK (k n : Int) (s : List UInt8) (l : List Tr) : Tr :=
  if k % 8 = 0 ∨ k % 8 = 1 then .num ((n % 2001 - 1000 : Int) : Rat)
  else if k % 8 = 2 then .num (Rat.divInt (n % 41 - 20) (1 + s.length))
  else if k % 8 = 3 then .sym (symP n).1 (symP n).2
  else if k % 8 = 4 then .txt s
  else if k % 8 = 5 then .cons (l.getD 0 zeroT) (l.getD 1 zeroT)
  else Tr.list l
mutual
def mkT : Raw → Tr
  | ⟨k, n, s, l⟩ => mkK k n s (mkL l)
def mkL : List Raw → List Tr
  | [] => []
  | r :: t => mkT r :: mkL t
end
theorem mkL_map (l : List Raw) : mkL l = l.map mkT := by
  induction l with
  | nil => rfl
  | cons r t ih => rw [mkL, ih]; rfl
theorem mkT_eq (r : Raw) : mkT r = mkK r.kind r.n r.s (r.l.map mkT) := by
  obtain ⟨k, n, s, l⟩ := r
  rw [mkT, mkL_map]
/-- short strings and lists, all the way down -/
inductive Fit : Raw → Prop
  | mk (o : Raw) (hs : o.s.length ≤ 12) (hl : o.l.length ≤ 6) (h : ∀ x ∈ o.l, Fit x) : Fit o
theorem Fit.s {r : Raw} (h : Fit r) : r.s.length ≤ 12 := by cases h; assumption
theorem Fit.l {r : Raw} (h : Fit r) : r.l.length ≤ 6 := by cases h; assumption
theorem Fit.kids {r x : Raw} (h : Fit r) (hx : x ∈ r.l) : Fit x := by
  cases h with
  | mk _ _ _ h => exact h x hx
theorem Fit.empty : Fit ⟨0, 0, [], []⟩ := .mk _ (by decide) (by decide) (fun x hx => by cases hx)
theorem Raw.Wf.kids {r x : Raw} (h : r.Wf) (hx : x ∈ r.l) : x.Wf := by
  cases h with
  | mk _ _ _ _ _ _ _ h => exact h x hx
theorem Raw.Wf.bounds {r : Raw} (h : r.Wf) : -9223372036854775808 ≤ r.kind ∧ r.kind ≤ 9223372036854775807 ∧ -9223372036854775808 ≤ r.n ∧ r.n ≤ 9223372036854775807 := by
  cases h with
  | mk _ a b c d _ _ _ => exact ⟨a, b, c, d⟩
theorem Raw.Wf.lens {r : Raw} (h : r.Wf) : r.s.length ≤ 9223372036854775807 ∧ r.l.length ≤ 9223372036854775807 := by
  cases h with
  | mk _ _ _ _ _ a b _ => exact ⟨a, b⟩
theorem Raw.Wf.empty : Raw.Wf ⟨0, 0, [], []⟩ := .mk _ (by decide) (by decide) (by decide) (by decide) (by decide) (by decide) (fun x hx => by cases hx)
theorem Tr.list_ok {k : Nat} : ∀ {l : List Tr}, (∀ t ∈ l, t.Ok k) → (Tr.list l).Ok k
  | [], _ => ⟨by decide, by decide⟩
  | a :: r, h => ⟨h a (List.mem_cons_self ..), Tr.list_ok fun t ht => h t (List.mem_cons_of_mem _ ht)⟩
theorem rb_small {n d : Int} (hn : n.natAbs < 10 ^ 4) (hd : d.natAbs < 10 ^ 4) : Rb 4 (Rat.divInt n d) := Rb.mk' (by decide) hn hd
theorem rb_int {n : Int} (hn : n.natAbs < 10 ^ 4) : Rb 4 (n : Rat) := ⟨by rw [Rat.num_intCast]; exact hn, by rw [Rat.den_intCast]; decide, by decide⟩
theorem zeroT_ok : zeroT.Ok 4 := rb_int (by decide)
theorem getD_ok {k : Nat} {l : List Tr} {d : Tr} (h : ∀ t ∈ l, t.Ok k) (hd : d.Ok k) (i : Nat) : (l.getD i d).Ok k := by
  rw [List.getD_eq_getElem?_getD]
  rcases Nat.lt_or_ge i l.length with h1 | h1
  · rw [List.getElem?_eq_getElem h1]; exact h _ (List.getElem_mem h1)
  · rw [List.getElem?_eq_none h1]; exact hd
theorem mkT_ok (r : Raw) : Fit r → (mkT r).Ok 4 := by
  induction r using Raw.ind with
  | step r ih =>
    intro h
    have hl : ∀ t ∈ r.l.map mkT, t.Ok 4 := by
      intro t ht
      obtain ⟨x, hx, rfl⟩ := List.mem_map.1 ht
      exact ih x hx (h.kids hx)
    rw [mkT_eq]
    unfold mkK
    split
    · exact rb_int (by omega)
    · split
      · exact rb_small (by omega) (by have := h.s; omega)
      · split
        · have := symP_len r.n
          exact ⟨by omega, by omega⟩
        · split
          · have := h.s
            show r.s.length ≤ 100000
            omega
          · split
            · exact ⟨getD_ok hl zeroT_ok 0, getD_ok hl zeroT_ok 1⟩
            · exact Tr.list_ok hl
theorem list_size : ∀ l : List Tr, (Tr.list l).size = (l.map Tr.size).sum + l.length + 1
  | [] => rfl
  | a :: r => by
    show a.size + (Tr.list r).size + 1 = _
    rw [list_size r]
    simp only [List.map_cons, List.sum_cons, List.length_cons]
    omega
theorem sum_le : ∀ l : List Raw, (∀ x ∈ l, (mkT x).size + 1 ≤ 4 * x.size) → ((l.map mkT).map Tr.size).sum + l.length ≤ 4 * Raw.sizeL l
  | [], _ => by simp [Raw.sizeL]
  | a :: r, h => by
    have h1 := h a (List.mem_cons_self ..)
    have h2 := sum_le r fun x hx => h x (List.mem_cons_of_mem _ hx)
    simp only [List.map_cons, List.sum_cons, List.length_cons, Raw.sizeL]
    omega
theorem mkT_size (r : Raw) : (mkT r).size + 1 ≤ 4 * r.size := by
  induction r using Raw.ind with
  | step r ih =>
    have hs := sum_le r.l ih
    have hr : r.size = Raw.sizeL r.l + 1 := by obtain ⟨k, n, s, l⟩ := r; rfl
    rw [mkT_eq]
    unfold mkK
    split
    · show 1 + 1 ≤ _; omega
    · split
      · show 1 + 1 ≤ _; omega
      · split
        · show 1 + 1 ≤ _; omega
        · split
          · show 1 + 1 ≤ _; omega
          · split
            · show ((r.l.map mkT).getD 0 zeroT).size + ((r.l.map mkT).getD 1 zeroT).size + 1 + 1 ≤ _
              have hz : zeroT.size = 1 := rfl
              match hrl : r.l with
              | [] => simp only [List.map_nil, List.getD_nil, hz]; omega
              | [a] =>
                rw [hrl] at hs
                simp only [List.map_cons, List.map_nil, List.sum_cons, List.sum_nil, List.length_cons, List.length_nil] at hs
                simp only [List.map_cons, List.map_nil, List.getD_cons_zero, List.getD_cons_succ, List.getD_nil, hz]
                rw [hrl] at hr
                omega
              | a :: b :: t =>
                rw [hrl] at hs
                simp only [List.map_cons, List.sum_cons, List.length_cons] at hs
                simp only [List.map_cons, List.getD_cons_zero, List.getD_cons_succ]
                rw [hrl] at hr
                omega
            · rw [list_size, List.length_map]
              omega
end Go.Proofs.YtgphkgmhcmffnaaGreatDoor
